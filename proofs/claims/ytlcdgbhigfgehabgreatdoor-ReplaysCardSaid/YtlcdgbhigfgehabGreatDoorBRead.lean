/- The walk of batch.Read. -/
import Derived.Test.YtlcdgbhigfgehabGreatDoorStrMap
import Derived.Test.YtlcdgbhigfgehabGreatDoorReadMem
import Derived.Test.YtlcdgbhigfgehabGreatDoorSumsWalk
import Derived.StringKeys
import Derived.Maps.Keyed
import Derived.Deep.RegionHeld3
namespace Go.Proofs.YtlcdgbhigfgehabGreatDoor
open Go.RowKit Go.Maps
set_option maxRecDepth 100000

/-- What Read gives. -/
def RdPost (w : World) (s : List UInt8) (e : Ending) (w' : World) : Prop :=
  ∃ xv ev, e = .returned (.tuple #[xv, ev]) ∧ Fr (fun _ => False) w w' ∧ match readOf s with
    | none => xv = .agg #[.int .i64 0, .slice none 0 0, .slice none 0 0] ∧ ev = .iface 30 (.int .i64 5)
    | some x => ∃ bv tv mt, xv = .agg #[.int .i64 x.block, bv, tv] ∧ ev = .nilIface ∧ Vec w' w.heap.size 152 3 bv x.basis.length (entCells x.basis) ∧ Targs w' w.heap.size tv mt ∧ mt.map (·.t) = x.targs
theorem read_results (t : Array Value) (g h : Nat) (w : World) (b0 b1 b2 e0 : Value) (h2 : t.getD 2 undef = .pointer (some ⟨g, 0, none⟩)) (h3 : t.getD 3 undef = .pointer (some ⟨h, 0, none⟩))
    (hx : Own w g 146 [b0, b1, b2]) (he : Own w h 60 [e0]) : (results Tryz.f66 t).run Tryz.prog w = .ok (.tuple #[.agg #[b0, b1, b2], e0]) w := by
  have hc := he.cell (i := 0) rfl
  have x0 := hx.cell (i := 0) rfl
  have x1 := hx.cell (i := 1) rfl
  have x2 := hx.cell (i := 2) rfl
  have h2' : t[2]?.getD undef = .pointer (some ⟨g, 0, none⟩) := by simpa using h2
  have h3' : t[3]?.getD undef = .pointer (some ⟨h, 0, none⟩) := by simpa using h3
  simp [results, h2', h3', asAddr, x0, x1, x2, hc, go_sem]
/-- Whatever it throws: the door gives no batch. -/
theorem rd_die (w W : World) (s : List UInt8) (T : TypeId) (u : Value) (t : Array Value) (h2 : t.getD 2 undef = .pointer (some ⟨w.heap.size, 0, none⟩)) (h3 : t.getD 3 undef = .pointer (some ⟨w.heap.size + 1, 0, none⟩)) (b0 b1 b2 : Value)
    (hx : Own W w.heap.size 146 [b0, b1, b2]) (he : Own W (w.heap.size + 1) 60 [.nilIface]) (hF : Fr (fun _ => False) w W) (hn : readOf s = none) :
    bodyPostD Tryz.prog Tryz.f66 (RdPost w s) (Exit.panic [{ v := .iface T u, recovered := false }])
      { tmps := t, defers := [{ target := .fn (.func 115) #[.pointer (some ⟨w.heap.size, 0, none⟩), .pointer (some ⟨w.heap.size + 1, 0, none⟩)], args := #[] }] } W := by
  refine leaves_cons (f := 115) (args := #[.pointer (some ⟨w.heap.size, 0, none⟩), .pointer (some ⟨w.heap.size + 1, 0, none⟩)]) (by simp) (by simp [go_sem]) ?_
  refine (rcatch_panicking w.heap.size (w.heap.size + 1) T u W b0 b1 b2 .nilIface hx he (by omega)).mono ?_
  rintro e u' w' ⟨rfl, rfl, r1, r2, r3⟩
  refine ⟨_, read_results t _ _ w' _ _ _ _ h2 h3 r1 r2, _, _, rfl, hF.step r3 (fun k hk hl => by rcases hk with h | h <;> omega), ?_⟩
  rw [hn]
  exact ⟨rfl, rfl⟩
/-- The door at a return. -/
theorem rd_done (w W : World) (s : List UInt8) (x : Bat) (t : Array Value) (h2 : t.getD 2 undef = .pointer (some ⟨w.heap.size, 0, none⟩)) (h3 : t.getD 3 undef = .pointer (some ⟨w.heap.size + 1, 0, none⟩)) (bv tv : Value) (mt : List MT)
    (hx : Own W w.heap.size 146 [.int .i64 x.block, bv, tv]) (he : Own W (w.heap.size + 1) 60 [.nilIface]) (hF : Fr (fun _ => False) w W) (hn : readOf s = some x)
    (hbv : Vec W w.heap.size 152 3 bv x.basis.length (entCells x.basis)) (htv : Targs W w.heap.size tv mt) (hmt : mt.map (·.t) = x.targs) :
    bodyPostD Tryz.prog Tryz.f66 (RdPost w s) Exit.ret
      { tmps := t, defers := [{ target := .fn (.func 115) #[.pointer (some ⟨w.heap.size, 0, none⟩), .pointer (some ⟨w.heap.size + 1, 0, none⟩)], args := #[] }] } W := by
  refine leaves_cons (f := 115) (args := #[.pointer (some ⟨w.heap.size, 0, none⟩), .pointer (some ⟨w.heap.size + 1, 0, none⟩)]) (by simp) (by simp [go_sem]) ?_
  refine (rcatch_idle ⟨w.heap.size, 0, none⟩ ⟨w.heap.size + 1, 0, none⟩ W).mono ?_
  rintro e u' w' ⟨rfl, rfl, rfl⟩
  refine ⟨_, read_results t _ _ _ _ _ _ _ h2 h3 hx he, _, _, rfl, hF, ?_⟩
  rw [hn]
  exact ⟨bv, tv, mt, rfl, rfl, hbv, htv, hmt⟩
theorem read_results_congr (t t' : Array Value) (h2 : t.getD 2 undef = t'.getD 2 undef) (h3 : t.getD 3 undef = t'.getD 3 undef) : results Tryz.f66 t = results Tryz.f66 t' := by
  have h2' : t[2]?.getD undef = t'[2]?.getD undef := by simpa using h2
  have h3' : t[3]?.getD undef = t'[3]?.getD undef := by simpa using h3
  simp [results, h2', h3']
theorem leaves_congr (R : Ending → World → Prop) (t t' : Array Value) (h2 : t.getD 2 undef = t'.getD 2 undef) (h3 : t.getD 3 undef = t'.getD 3 undef) :
    ∀ (ds : List Deferred) (u : FrameMode) (w : World), Leaves Tryz.prog Tryz.f66 t R ds u w → Leaves Tryz.prog Tryz.f66 t' R ds u w := by
  intro ds
  induction ds with
  | nil =>
    intro u w h
    cases u with
    | returning => obtain ⟨v, h1, h4⟩ := h; exact ⟨v, by rw [← read_results_congr t t' h2 h3]; exact h1, h4⟩
    | panicking c => exact h
    | run => exact h
  | cons d ds ih =>
    intro u w h
    obtain ⟨hu, fv, cap, f, args, h1, h4, h5⟩ := h
    refine ⟨hu, fv, cap, f, args, h1, h4, h5.mono ?_⟩
    intro e u' w' he
    cases e with
    | returned v => exact ih _ _ he
    | panicked c => exact ih _ _ he
    | outgrown => exact he
/-- What a panic leaves does not hang on a slot behind the third. -/
theorem rd_put (w : World) (s : List UInt8) (c : List PanicEntry) (a : Act) (W : World) (d : Nat) (v : Value) (hd : 4 ≤ d) (h : bodyPostD Tryz.prog Tryz.f66 (RdPost w s) (Exit.panic c) (a.put (some d) v) W) :
    bodyPostD Tryz.prog Tryz.f66 (RdPost w s) (Exit.panic c) a W := by
  refine leaves_congr _ _ _ ?_ ?_ _ _ _ h
  · simp only [Act.put, Array.getD_eq_getD_getElem?]
    rw [Array.getElem?_setIfInBounds_ne (by omega)]
  · simp only [Act.put, Array.getD_eq_getD_getElem?]
    rw [Array.getElem?_setIfInBounds_ne (by omega)]
/-- Between two steps of Read. -/
structure XI (w W : World) (db dof dcap : Nat) (s : List UInt8) (F : Value) (blk : Int) (bv tv : Value) (q : Nat) : Prop where
  x : Own W w.heap.size 146 [.int .i64 blk, bv, tv]
  e : Own W (w.heap.size + 1) 60 [.nilIface]
  r : RD W (w.heap.size + 1 + 1) db dof dcap s q F
  fr : Fr (fun _ => False) w W
  db : db < w.heap.size
  gl : 1 < w.heap.size
section
variable {w W W' : World} {db dof dcap : Nat} {s : List UInt8} {F bv tv : Value} {blk : Int} {q q' : Nat}
theorem XI.step (h : XI w W db dof dcap s F blk bv tv q) (hf : Fr (fun k => k = w.heap.size + 1 + 1) W W') (hr : RD W' (w.heap.size + 1 + 1) db dof dcap s q' F) : XI w W' db dof dcap s F blk bv tv q' :=
  ⟨h.x.keep hf (by omega), h.e.keep hf (by omega), hr, h.fr.step hf (fun k hk hl => by omega), h.db, h.gl⟩
theorem XI.keep {S : Nat → Prop} (h : XI w W db dof dcap s F blk bv tv q) (hf : Fr S W W') (hS : ∀ k, S k → w.heap.size + 3 ≤ k) : XI w W' db dof dcap s F blk bv tv q :=
  ⟨h.x.keep hf (fun hs => by have := hS _ hs; omega), h.e.keep hf (fun hs => by have := hS _ hs; omega), h.r.keep hf (fun hs => by have := hS _ hs; omega) (fun hs => by have := hS _ hs; have := h.db; omega) (fun hs => by have := hS _ hs; have := h.gl; omega),
    h.fr.step hf (fun k hk hl => by have := hS k hk; omega), h.db, h.gl⟩
theorem XI.keep0 (h : XI w W db dof dcap s F blk bv tv q) (hf : Fr (fun _ => False) W W') : XI w W' db dof dcap s F blk bv tv q := h.keep hf (fun _ h => h.elim)
theorem XI.set (h : XI w W db dof dcap s F blk bv tv q) (i : Nat) (v : Value) (blk' : Int) (bv' tv' : Value) (he : ([.int .i64 blk, bv, tv] : List Value).set i v = [.int .i64 blk', bv', tv']) : XI w (W.setCell ⟨w.heap.size, i, none⟩ v) db dof dcap s F blk' bv' tv' q := by
  have hs : Fr (fun k => k = w.heap.size) W (W.setCell ⟨w.heap.size, i, none⟩ v) := (Fr.refl _ _).setCell _ _ (fun _ => rfl)
  refine ⟨he ▸ h.x.set i v, h.e.keep hs (by omega), h.r.keep hs (by omega) (by have := h.db; omega) (by have := h.gl; omega), h.fr.step hs (fun k hk hl => by omega), h.db, h.gl⟩
theorem XI.die {T : TypeId} {u : Value} (h : XI w W db dof dcap s (.iface T u) blk bv tv q) (hf : Fr (fun k => k = w.heap.size + 1 + 1) W W') (hn : readOf s = none) (t : Array Value) (h2 : t.getD 2 undef = .pointer (some ⟨w.heap.size, 0, none⟩)) (h3 : t.getD 3 undef = .pointer (some ⟨w.heap.size + 1, 0, none⟩)) :
    bodyPostD Tryz.prog Tryz.f66 (RdPost w s) (Exit.panic [{ v := .iface T u, recovered := false }])
      { tmps := t, defers := [{ target := .fn (.func 115) #[.pointer (some ⟨w.heap.size, 0, none⟩), .pointer (some ⟨w.heap.size + 1, 0, none⟩)], args := #[] }] } W' :=
  rd_die w W' s T u t h2 h3 _ _ _ (h.x.keep hf (by omega)) (h.e.keep hf (by omega)) (h.fr.step hf (fun k hk hl => by omega)) hn
end
theorem readOf_none {s : List UInt8} (h : bodyN s = none) : readOf s = none := by unfold readOf; rw [h]

/-! ### The map of sizes -/
theorem zero_int2 (w : World) : (zeroValue 3).run Tryz.prog w = .ok (.int .i64 0) w := by kernel_rfl
def Sizes (w : World) (mb n : Nat) (E : List Ent) : Prop := ∃ f, VMap w Tryz.prog 9 mb n f ∧ ∀ nm : List UInt8, (f (.string ⟨nm.toArray⟩)).getD (.int .i64 0) = .int .i64 (sizeIn E nm)
theorem Sizes.made (w : World) : Sizes (w.alloc (.map #[] 0)) w.heap.size 0 [] := ⟨_, VMap.made w _ _, fun _ => rfl⟩
theorem Sizes.keep {w w1 : World} {S : Nat → Prop} {mb n : Nat} {E : List Ent} (h : Sizes w mb n E) (k : Fr S w w1) (hb : ¬ S mb) : Sizes w1 mb n E := by
  obtain ⟨f, h1, h2⟩ := h
  exact ⟨f, h1.keep k hb, h2⟩
theorem Sizes.look {w : World} {mb n : Nat} {E : List Ent} (h : Sizes w mb n E) (nm : List UInt8) (hl : nm.length ≤ 1000) :
    (Instr.lookup 228 (.map (some mb)) (.string ⟨nm.toArray⟩) false).run Tryz.prog w = .ok (.int .i64 (sizeIn E nm)) w := by
  obtain ⟨f, h1, h2⟩ := h
  obtain ⟨kl, hk⟩ := keyOf_name nm hl
  rw [h1.look str_keyed Tryz.underlying228 (zero_int2 w) hk, h2]
theorem Sizes.put {w : World} {mb n : Nat} {E : List Ent} (h : Sizes w mb n E) (hn : n < maxLen) (e : Ent) (hl : e.name.length ≤ 1000) :
    ∃ w', (Instr.mapUpdate 228 (.map (some mb)) (.string ⟨e.name.toArray⟩) (.int .i64 e.size)).run Tryz.prog w = .ok () w' ∧ Sizes w' mb (n + 1) (E ++ [e]) ∧ Fr (fun k => k = mb) w w' := by
  obtain ⟨f, h1, h2⟩ := h
  obtain ⟨kl, hk⟩ := keyOf_name e.name hl
  obtain ⟨w', r1, r2, r3⟩ := h1.put str_keyed Tryz.underlying228 hn hk (.int .i64 e.size)
  refine ⟨w', r1, ⟨_, r2, fun nm => ?_⟩, r3⟩
  rw [sizeIn_snoc]
  by_cases hx : e.name = nm
  · subst hx
    rw [if_pos rfl, putAt_same]; rfl
  · rw [if_neg hx, putAt_other _ _ (fun he => hx ?_)]
    · exact h2 nm
    · simp only [Value.string.injEq, ByteArray.mk.injEq] at he
      have := congrArg Array.toList he
      simpa using this.symm
/-! ### What is left to read -/
def body4 (blk : Nat) (basis : List Ent) (r : List UInt8) : Option (Bat × List UInt8) :=
  match numN 1 r with
  | none => none
  | some (k, r) => if 8 < k then none else match targsF blk basis k [] r with | none => none | some (ts, r) => some (⟨blk, basis, ts⟩, r)
def body3 (blk : Nat) (r : List UInt8) : Option (Bat × List UInt8) :=
  match numN 1 r with
  | none => none
  | some (n, r) => if 8 < n then none else match entsF n [] r with | none => none | some (basis, r) => body4 blk basis r
def body2 (r : List UInt8) : Option (Bat × List UInt8) :=
  match numN 1 r with
  | none => none
  | some (blk, r) => if blk < 1 ∨ 64 < blk then none else body3 blk r
theorem bodyN_eq (s : List UInt8) (h : 3 ≤ s.length) : bodyN s = if s.take 3 ≠ [66, 65, 84] then none else body2 (s.drop 3) := by
  unfold bodyN takeN
  rw [if_neg (by omega)]
  rfl
theorem entN_name {last : List UInt8} {first : Bool} {r r' : List UInt8} {e : Ent} (h : entN last first r = some (e, r')) : e.name.length ≤ 12 ∧ e.size ≤ 300 := by
  unfold entN at h
  split at h
  · cases h
  · split at h
    · cases h
    · split at h
      · cases h
      · rename_i hc
        split at h
        · cases h
        · split at h
          · cases h
          · split at h
            · cases h
            · cases h
              refine ⟨?_, by simp at *; omega⟩
              simp only [Bool.not_eq_false, Bool.and_eq_true] at hc
              have := hc.1
              unfold isName at this
              simp at this
              exact this.1.2
theorem entsF_len : ∀ (n : Nat) (acc : List Ent) (r r' : List UInt8) (x : List Ent), entsF n acc r = some (x, r') → x.length = acc.length + n := by
  intro n
  induction n with
  | zero => intro acc r r' x h; cases h; rfl
  | succ n ih =>
    intro acc r r' x h
    unfold entsF at h
    split at h
    · cases h
    · have := ih _ _ _ _ h
      simp at this; omega
theorem Sizes.apartV {w : World} {mb n B sz k : Nat} {T : TypeId} {E : List Ent} {v : Value} {xs : List Value} (h : Sizes w mb n E) (hv : Vec w B T sz v k xs) : v.ownBlock ≠ some mb := by
  obtain ⟨f, h1, h2⟩ := h
  rcases hv.2 with ⟨rfl, -⟩ | ⟨g, cap, rest, rfl, -, ho, -⟩
  · intro h; simp [Value.ownBlock] at h
  · intro h
    simp [Value.ownBlock] at h
    exact h1.apart ho h
theorem ent_one (e : Ent) : ∀ u ∈ entRow e, u.oneCell' = true := by
  intro u hu
  simp [entRow] at hu
  rcases hu with rfl | rfl | rfl <;> rfl
/-- Between two rounds of Read's first loop. -/
structure LI (w W : World) (db dof dcap : Nat) (s : List UInt8) (F : Value) (blk n mb : Nat) (i q m : Nat) (E : List Ent) (bv : Value) : Prop where
  xi : XI w W db dof dcap s F blk bv (.slice none 0 0) q
  sz : Sizes W mb m E
  vec : Vec W (w.heap.size + 3) 152 3 bv E.length (entCells E)
  at_ : entsF n [] (s.drop 5) = entsF (n - i) E (s.drop q)
  len : E.length = i
  le : i ≤ n
  few : m = i
theorem lastT_snoc (E : List Ent) (ts : List Targ) (t : Targ) : lastT E (ts ++ [t]) = t.ent.name := by
  cases ts with
  | nil => rfl
  | cons a l =>
    show lastName ((a :: (l ++ [t])).map (·.ent)) = _
    rw [show (a :: (l ++ [t])).map (·.ent) = ((a :: l).map (·.ent)) ++ [t.ent] by simp]
    exact lastName_snoc _ _
theorem sizeIn_le (E : List Ent) (nm : List UInt8) (h : ∀ e ∈ E, e.size ≤ 300) : sizeIn E nm ≤ 300 := by
  have key : ∀ (E : List Ent) (s : Nat), s ≤ 300 → (∀ e ∈ E, e.size ≤ 300) → E.foldl (fun s e => if e.name = nm then e.size else s) s ≤ 300 := by
    intro E
    induction E with
    | nil => intro s h _; exact h
    | cons e E ih =>
      intro s h1 h2
      refine ih _ ?_ (fun x hx => h2 x (by simp [hx]))
      show (if e.name = nm then e.size else s) ≤ 300
      split
      · exact h2 e (by simp)
      · exact h1
  exact key E 0 (by omega) h
theorem entsF_size : ∀ (n : Nat) (acc : List Ent) (r r' : List UInt8) (x : List Ent), entsF n acc r = some (x, r') → (∀ e ∈ acc, e.size ≤ 300) → ∀ e ∈ x, e.size ≤ 300 := by
  intro n
  induction n with
  | zero => intro acc r r' x h h2; cases h; exact h2
  | succ n ih =>
    intro acc r r' x h h2
    unfold entsF at h
    split at h
    · cases h
    · rename_i e r1 h1
      refine ih _ _ _ _ h (fun y hy => ?_)
      rcases List.mem_append.1 hy with hy | hy
      · exact h2 y hy
      · simp at hy; subst hy
        exact (entN_name h1).2
theorem targ_one (x : MT) (a : Option Addr) (n c : Nat) (h : x.v = .slice a n c) : ∀ u ∈ targRow x, u.oneCell' = true := by
  intro u hu
  simp [targRow, h] at hu
  rcases hu with rfl | rfl | rfl | rfl <;> rfl
theorem Vec.apartV {w : World} {B B' T T' sz sz' n n' : Nat} {v v' : Value} {xs ys : List Value} (h1 : Vec w B T sz v n xs) (h2 : Vec w B' T' sz' v' n' ys) (hT : T ≠ T') : ∀ b, v.ownBlock = some b → v'.ownBlock ≠ some b := by
  intro b hb hb2
  rcases h2.2 with ⟨rfl, -⟩ | ⟨g, cap, rest, rfl, -, ho, -⟩
  · simp [Value.ownBlock] at hb2
  · have e : g = b := by simpa [Value.ownBlock] using hb2
    subst e
    exact h1.apartT ho hT hb
/-- Between two rounds of Read's second loop. -/
structure LT (w W : World) (db dof dcap : Nat) (s : List UInt8) (F : Value) (blk k mb m : Nat) (E : List Ent) (bv : Value) (r0 : List UInt8) (j q : Nat) (mt : List MT) (tv : Value) : Prop where
  xi : XI w W db dof dcap s F blk bv tv q
  sz : Sizes W mb m E
  vec : Vec W (w.heap.size + 3) 152 3 bv E.length (entCells E)
  tg : Targs W (w.heap.size + 3) tv mt
  at_ : targsF blk E k [] r0 = targsF blk E (k - j) (mt.map (·.t)) (s.drop q)
  len : mt.length = j
  le : j ≤ k
set_option maxHeartbeats 1500000 in
theorem bread_any (w : World) (db dof dcap : Nat) (s : List UInt8) (T : TypeId) (u : Value) (hb : IsB w (.slice (some ⟨db, dof, none⟩) s.length dcap) s) (hf : w.cell? ⟨1, 0, none⟩ = some (.iface T u)) :
    Calls Tryz.prog 66 #[.slice (some ⟨db, dof, none⟩) s.length dcap] w (RdPost w s) := by
  have hmf : ∀ (fn : Fn) (first cap : Array Value) (w : World), (Instr.makeFunc fn first cap).run Tryz.prog w = .ok (.func fn first cap) w := fun _ _ _ _ => rfl
  have hmm := @run_makeMap Tryz.prog
  have hm := hb.len
  have hdb := hb.lt0 db rfl
  have hgl : 1 < w.heap.size := World.block_lt_of_cell? w _ hf
  have hA : Fr (fun _ => False) w (((w.alloc (.cells #[.int .i64 0, .slice none 0 0, .slice none 0 0] 146)).alloc (.cells #[.nilIface] 60)).alloc (.cells #[.slice (some ⟨db, dof, none⟩) s.length dcap, .int .i64 0] 224)) := (((Fr.refl _ _).alloc _).alloc _).alloc _
  have hst : XI w (((w.alloc (.cells #[.int .i64 0, .slice none 0 0, .slice none 0 0] 146)).alloc (.cells #[.nilIface] 60)).alloc (.cells #[.slice (some ⟨db, dof, none⟩) s.length dcap, .int .i64 0] 224)) db dof dcap s (.iface T u) 0 (.slice none 0 0) (.slice none 0 0) 0 := by
    refine ⟨?_, ?_, ⟨?_, hb.keep0 hA, Nat.zero_le _, hA.cell hf id, by omega⟩, hA, hdb, hgl⟩
    · exact ((Own.alloc w #[.int .i64 0, .slice none 0 0, .slice none 0 0] 146).keep ((Fr.refl (fun _ => False) _).alloc _) id).keep ((Fr.refl (fun _ => False) _).alloc _) id
    · have := (Own.alloc (w.alloc (.cells #[.int .i64 0, .slice none 0 0, .slice none 0 0] 146)) #[.nilIface] 60).keep ((Fr.refl (fun _ => False) _).alloc (.cells #[.slice (some ⟨db, dof, none⟩) s.length dcap, .int .i64 0] 224)) id
      simpa using this
    · have := Own.alloc ((w.alloc (.cells #[.int .i64 0, .slice none 0 0, .slice none 0 0] 146)).alloc (.cells #[.nilIface] 60)) #[.slice (some ⟨db, dof, none⟩) s.length dcap, .int .i64 0] 224
      simpa using this
  have HST := Lib.hid hst
  clear hb hf hA hst
  by_cases a1 : s.length < 3
  · have HN := Lib.hid (readOf_none (show bodyN s = none by unfold bodyN takeN; rw [if_pos a1]))
    go_enter_defers Tryz.func66, Tryz.ntmps66
    go_wp2_with fail
    go_at_call 117; refine (take_bad _ _ db dof dcap s 0 3 T u HST.out.r (by omega) (by omega)).mono ?_
    rintro e w' ⟨rfl, hf⟩
    exact HST.out.die (hf.mono (fun _ h _ => h.elim)) HN.out _ rfl rfl
  replace a1 : 3 ≤ s.length := by omega
  go_enter_defers Tryz.func66, Tryz.ntmps66
  go_wp2_with fail
  go_at_call 117; refine (take_ok _ _ db dof dcap s 0 3 _ HST.out.r (by omega) (by omega)).mono ?_
  rintro e w1 ⟨off, rfl, hb1, hr1, hf1⟩
  rw [Nat.zero_add] at hr1
  have HX1 := Lib.hid (HST.out.step hf1 hr1)
  have hcv := run_string_of (P := Tryz.prog) w1 25 9 5 _ _ Tryz.underlying25 Tryz.underlying5 Tryz.underlying9 hb1
  rw [List.drop_zero] at hcv
  clear hb1 hr1 hf1
  have EQ := Lib.hid (bodyN_eq s a1)
  go_wp2_with fail
  clear hcv
  by_cases a2 : ¬ s.take 3 = [66, 65, 84]
  · have HN := Lib.hid (readOf_none (show bodyN s = none by rw [EQ.out, if_pos a2]))
    go_at_call 116; refine Calls.mono (must_badb _ _ T u HX1.out.r.form _ ?_) ?_
    · rw [beq_eq_false_iff_ne]; exact a2
    rintro e w' ⟨rfl, rfl⟩
    exact HX1.out.die (Fr.refl _ _) HN.out _ rfl rfl
  replace a2 : s.take 3 = [66, 65, 84] := Classical.not_not.1 a2
  replace EQ := Lib.hid (show bodyN s = body2 (s.drop 3) by rw [EQ.out, if_neg (fun h => h a2)])
  go_at_call 116; refine Calls.mono (must_okb _ _ _ ?_) ?_
  · rw [beq_iff_eq]; exact a2
  rintro e w' ⟨rfl, rfl⟩
  -- the block
  by_cases a3 : s.length < 3 + 1
  · have HN := Lib.hid (readOf_none (show bodyN s = none by rw [EQ.out]; unfold body2; rw [numN_bad a3 (by omega)]))
    go_wp2_with fail
    go_at_call 118; refine (number_bad _ _ db dof dcap s 3 1 _ rfl T u HX1.out.r (by omega) (by omega)).mono ?_
    rintro e w' ⟨rfl, hf⟩
    exact HX1.out.die (hf.mono (fun _ h _ => h.elim)) HN.out _ rfl rfl
  replace a3 : 3 + 1 ≤ s.length := by omega
  have hkl := num1_lt a3
  have e4 := numN_ok a3
  obtain ⟨blk, hbk⟩ : ∃ k, numOf ((s.drop 3).take 1) = k := ⟨_, rfl⟩
  have HBK := Lib.hid hbk
  rw [hbk] at hkl e4
  replace EQ := Lib.hid (show bodyN s = (if blk < 1 ∨ 64 < blk then none else body3 blk (s.drop (3 + 1))) by rw [EQ.out]; unfold body2; rw [e4])
  clear e4 hbk
  go_wp2_with fail
  go_at_call 118; refine (number_small _ _ db dof dcap s 3 1 _ rfl _ HX1.out.r (by omega) a3).mono ?_
  rintro e w2 ⟨rfl, hr2, hf2⟩
  rw [HBK.out]
  have hX2 := HX1.out.step hf2 hr2
  have x0 := hX2.x.cell (i := 0) rfl
  have xf := hX2.x.free 0 (by simp)
  have HX3 := Lib.hid (hX2.set 0 (.int .i64 blk) blk (.slice none 0 0) (.slice none 0 0) rfl)
  clear hr2 hf2 hX2 HX1
  by_cases b1 : ¬ (1 : Int) ≤ (blk : Int)
  · have HN := Lib.hid (readOf_none (show bodyN s = none by rw [EQ.out, if_pos (.inl (by omega))]))
    go_wp2_with fail
    go_at_call 116; refine Calls.mono (must_badb _ _ T u HX3.out.r.form _ ?_) ?_
    · rfl
    rintro e w' ⟨rfl, rfl⟩
    exact HX3.out.die (Fr.refl _ _) HN.out _ rfl rfl
  replace b1 : (1 : Int) ≤ (blk : Int) := by omega
  by_cases b2 : 64 < blk
  · have HN := Lib.hid (readOf_none (show bodyN s = none by rw [EQ.out, if_pos (.inr b2)]))
    go_wp2_with fail
    go_at_call 116; refine Calls.mono (must_badb _ _ T u HX3.out.r.form _ ?_) ?_
    · exact decide_eq_false (by omega)
    rintro e w' ⟨rfl, rfl⟩
    exact HX3.out.die (Fr.refl _ _) HN.out _ rfl rfl
  go_wp2_with fail
  go_at_call 116; refine Calls.mono (must_okb _ _ _ ?_) ?_
  · exact decide_eq_true (by omega)
  rintro e w' ⟨rfl, rfl⟩
  replace EQ := Lib.hid (show bodyN s = body3 blk (s.drop 4) by rw [EQ.out, if_neg (by omega)])
  clear x0 xf
  -- the map
  generalize w2.setCell ⟨w.heap.size, 0, none⟩ (.int .i64 blk) = w3 at *
  have HX4 := Lib.hid (HX3.out.keep0 ((Fr.refl (fun _ => False) _).alloc (.map #[] 0)))
  have HSZ := Lib.hid (Sizes.made w3)
  have hz3 : w.heap.size + 3 ≤ w3.heap.size := by have := HX3.out.r.own.lt; omega
  -- how many files
  by_cases a5 : s.length < 4 + 1
  · have HN := Lib.hid (readOf_none (show bodyN s = none by rw [EQ.out]; unfold body3; rw [numN_bad a5 (by omega)]))
    go_wp2_with fail
    go_at_call 118; refine (number_bad _ _ db dof dcap s 4 1 _ rfl T u HX4.out.r (by omega) (by omega)).mono ?_
    rintro e w' ⟨rfl, hf⟩
    exact HX4.out.die (hf.mono (fun _ h _ => h.elim)) HN.out _ rfl rfl
  replace a5 : 4 + 1 ≤ s.length := by omega
  have hnl := num1_lt a5
  have e6 := numN_ok a5
  obtain ⟨n, hnn⟩ : ∃ k, numOf ((s.drop 4).take 1) = k := ⟨_, rfl⟩
  have HNN := Lib.hid hnn
  rw [hnn] at hnl e6
  replace EQ := Lib.hid (show bodyN s = (if 8 < n then none else match entsF n [] (s.drop 5) with | none => none | some (basis, r) => body4 blk basis r) by rw [EQ.out]; unfold body3; rw [e6])
  clear e6 hnn
  go_wp2_with fail
  go_at_call 118; refine (number_small _ _ db dof dcap s 4 1 _ rfl _ HX4.out.r (by omega) a5).mono ?_
  rintro e w5 ⟨rfl, hr5, hf5⟩
  rw [HNN.out]
  have HX5 := Lib.hid (HX4.out.step hf5 hr5)
  have HSZ5 := Lib.hid (HSZ.out.keep hf5 (by omega))
  have hz5 : w3.heap.size + 1 ≤ w5.heap.size := by have := hf5.size; simp at this; omega
  clear hr5 hf5
  go_wp2_with fail
  by_cases a6 : 8 < n
  · have HN := Lib.hid (readOf_none (show bodyN s = none by rw [EQ.out, if_pos a6]))
    go_at_call 116; refine Calls.mono (must_badb _ _ T u HX5.out.r.form _ ?_) ?_
    · exact decide_eq_false (by omega)
    rintro e w' ⟨rfl, rfl⟩
    exact HX5.out.die (Fr.refl _ _) HN.out _ rfl rfl
  go_at_call 116; refine Calls.mono (must_okb _ _ _ ?_) ?_
  · exact decide_eq_true (by omega)
  rintro e w' ⟨rfl, rfl⟩
  replace EQ := Lib.hid (show bodyN s = (match entsF n [] (s.drop 5) with | none => none | some (basis, r) => body4 blk basis r) by rw [EQ.out, if_neg a6])
  go_wp2_with fail
  have hmb : w.heap.size + 3 ≤ w3.heap.size := hz3
  obtain ⟨mb, hmbe⟩ : ∃ mb, w3.heap.size = mb := ⟨_, rfl⟩
  rw [hmbe] at HSZ5 hmb ⊢
  have hl0 : LI w w5 db dof dcap s (.iface T u) blk n mb 0 5 0 [] (.slice none 0 0) := ⟨HX5.out, HSZ5.out, Vec.nil _ _ _ _, rfl, rfl, Nat.zero_le _, rfl⟩
  have HL0 := Lib.hid hl0
  clear hl0 HSZ hmbe
  have hn8 : n ≤ 8 := by omega
  go_loopw [7, 44] (fun lv iv wr => ∃ (i q m : Nat) (E : List Ent) (bv : Value), lv = .string ⟨(lastName E).toArray⟩ ∧ iv = .int .i64 i ∧ LI w wr db dof dcap s (.iface T u) blk n mb i q m E bv) (fun _ iv _ => n - (intOf iv).toNat)
  case atStart => exact ⟨0, 5, 0, [], _, rfl, rfl, HL0.out⟩
  case round =>
    obtain ⟨i, q, m, E, bv, rfl, rfl, hli⟩ := hrel
    obtain ⟨ba, bc, hbv, -⟩ := hli.vec.shape
    subst hbv
    have HLI := Lib.hid hli
    have hE := hli.len
    have hin := hli.le
    have hfew := hli.few
    have hqz := hli.xi.r.le
    have hwz : w.heap.size + 3 ≤ wr.heap.size := by have := hli.xi.r.own.lt; omega
    have hmlt : mb < wr.heap.size := by obtain ⟨f, h1, -⟩ := hli.sz; exact h1.lt
    by_cases hlt : i < n
    · have hfi : ((i : Int) == 0) = E.isEmpty := by
        cases E with
        | nil =>
          have : i = 0 := by simpa using hE.symm
          subst this; rfl
        | cons a l =>
          have : i ≠ 0 := by simp at hE; omega
          show _ = false
          rw [beq_eq_false_iff_ne]; omega
      have hen := entry_any wr (w.heap.size + 1 + 1) db dof dcap s q T u hli.xi.r ⟨(lastName E).toArray⟩ E.isEmpty
      rw [show (⟨(lastName E).toArray⟩ : ByteArray).data.toList = lastName E from by simp] at hen
      have HEN := Lib.hid hen
      have hstep : entsF (n - i) E (s.drop q) = (match entN (lastName E) E.isEmpty (s.drop q) with | none => none | some (e, r) => entsF (n - (i + 1)) (E ++ [e]) r) := by
        rw [show n - i = (n - (i + 1)) + 1 by omega]; rfl
      have HSTEP := Lib.hid hstep
      have HE := Lib.hid hE
      have hel : E.length ≤ 8 := by omega
      clear hen hstep hli hE
      cases hN : entN (lastName E) E.isEmpty (s.drop q) with
      | none =>
        have HN := Lib.hid (readOf_none (show bodyN s = none by rw [EQ.out, HLI.out.at_, HSTEP.out, hN]))
        rw [hN] at HEN
        go_wp2_with fail
        go_at_call 119; refine HEN.out.mono ?_
        rintro e w' ⟨hf, rfl⟩
        exact HLI.out.xi.die hf HN.out _ rfl rfl
      | some xr =>
        obtain ⟨x, r⟩ := xr
        rw [hN] at HEN
        have HEQ := Lib.hid (show entsF n [] (s.drop 5) = entsF (n - (i + 1)) (E ++ [x]) r by rw [HLI.out.at_, HSTEP.out, hN])
        have hnm := entN_name hN
        clear hN
        go_wp2_with fail
        go_at_call 119; refine HEN.out.mono ?_
        rintro e w6 ⟨hf6, q', rfl, rfl, hr6⟩
        have hX6 := HLI.out.xi.step hf6 hr6
        have hz6 := hf6.size
        have hO7 : Own (w6.alloc (.cells #[.string ⟨x.name.toArray⟩, .int .i64 x.size, .int .u64 x.dig] 152)) w6.heap.size 152 [.string ⟨x.name.toArray⟩, .int .i64 x.size, .int .u64 x.dig] := Own.alloc _ _ _
        have hF7 : Fr (fun _ => False) w6 (w6.alloc (.cells #[.string ⟨x.name.toArray⟩, .int .i64 x.size, .int .u64 x.dig] 152)) := (Fr.refl _ _).alloc _
        have hV7 := (HLI.out.vec.keep hf6 (fun b hb hs => by have := (HLI.out.vec.lt b hb).1; omega)).keep hF7 (fun _ _ h => h)
        have hS7 := (HLI.out.sz.keep hf6 (by omega)).keep hF7 id
        obtain ⟨w8, hput, hS8, hF8⟩ := hS7.put (by unfold maxLen; omega) x (by omega)
        have hX8 := (hX6.keep0 hF7).keep hF8 (fun k hk => by omega)
        have hV8 := hV7.keep hF8 (fun b hb hs => by subst hs; exact hS7.apartV hV7 hb)
        have hO8 := hO7.keep hF8 (by omega)
        have c0 := hO7.cell (i := 0) rfl
        have c1 := hO7.cell (i := 1) rfl
        have d0 := hO8.cell (i := 0) rfl
        have d1 := hO8.cell (i := 1) rfl
        have d2 := hO8.cell (i := 2) rfl
        have x1 := hX8.x.cell (i := 1) rfl
        have HX8 := Lib.hid hX8
        have HV8 := Lib.hid hV8
        have HS8 := Lib.hid hS8
        have hz8 : w.heap.size + 3 ≤ w8.heap.size := by have := hX8.r.own.lt; omega
        clear hX6 hO7 hF7 hV7 hS7 hF8 hX8 hV8 hS8 hO8 hf6 hr6
        go_wp2_with (at_builtin; refine wpList_append_vec rfl (.tmp 60) (.tmp 62) _ rfl (w.heap.size + 3) 152 3 32 elt_ent (HV8.out.keep ((Fr.refl (fun _ => False) _).alloc _) (fun _ _ h => h)) rfl (m := 1) (Reads.new _ _ _ _ (by simp) _ _) rfl rfl (ent_one x) (by unfold maxLen; omega) (by omega) (by simp; omega) ?_; intro v9 w9 hv9 hf9 hd9 hn9; obtain ⟨a9, c9, hsh9, -⟩ := hv9.shape; subst hsh9; have HX9 := Lib.hid ((HX8.out.keep0 ((Fr.refl (fun _ => False) _).alloc _)).keep hf9 (fun k hk => (HV8.out.lt k hk).1)); have HS9 := Lib.hid ((HS8.out.keep ((Fr.refl (fun _ => False) _).alloc _) id).keep hf9 (HS8.out.apartV HV8.out)); have z1 := HX9.out.x.cell (i := 1) rfl; have zf := HX9.out.x.free 1 (by simp); have HV9 := Lib.hid hv9; clear hv9 hf9 hd9 hn9)
        have hs10 : Fr (fun k => k = w.heap.size) w9 (w9.setCell ⟨w.heap.size, 1, none⟩ (.slice a9 (E.length + 1) c9)) := (Fr.refl _ _).setCell _ _ (fun _ => rfl)
        have hV10 := HV9.out.keep hs10 (fun b hb hs => by have := (HV9.out.lt b hb).1; omega)
        refine ⟨⟨i + 1, q', m + 1, E ++ [x], .slice a9 (E.length + 1) c9, by rw [lastName_snoc], by go_num, ⟨HX9.out.set 1 _ _ _ _ rfl, HS9.out.keep hs10 (by omega), by rw [List.length_append, entCells_snoc]; exact hV10, HEQ.out, by simp [HE.out], by omega, by omega⟩⟩, by simp [intOf]; omega⟩
    · have hni : n - i = 0 := by omega
      have hat := HLI.out.at_
      rw [hni] at hat
      replace EQ := Lib.hid (show bodyN s = body4 blk E (s.drop q) by rw [EQ.out, hat]; rfl)
      have hsz := Lib.hid (entsF_size n [] (s.drop 5) (s.drop q) E (by rw [hat]; rfl) (fun _ h => by simp at h))
      have hE8 : E.length ≤ 8 := by omega
      have hXL := Lib.hid hli
      have hge : ¬ ((i : Int) < (n : Int)) := by omega
      clear hli hat hE hin hni
      by_cases a7 : s.length < q + 1
      · have HN := Lib.hid (readOf_none (show bodyN s = none by rw [EQ.out]; unfold body4; rw [numN_bad a7 hqz]))
        go_wp2_with fail
        go_at_call 118; refine (number_bad _ _ db dof dcap s q 1 _ rfl T u HLI.out.xi.r (by omega) (by omega)).mono ?_
        rintro e w' ⟨rfl, hf⟩
        exact HLI.out.xi.die (hf.mono (fun _ h _ => h.elim)) HN.out _ rfl rfl
      replace a7 : q + 1 ≤ s.length := by omega
      have hkl2 := num1_lt a7
      have e7 := numN_ok a7
      obtain ⟨k, hkk⟩ : ∃ k, numOf ((s.drop q).take 1) = k := ⟨_, rfl⟩
      have HKK := Lib.hid hkk
      rw [hkk] at hkl2 e7
      replace EQ := Lib.hid (show bodyN s = (if 8 < k then none else match targsF blk E k [] (s.drop (q + 1)) with | none => none | some (ts, r) => some (⟨blk, E, ts⟩, r)) by rw [EQ.out]; unfold body4; rw [e7])
      clear e7 hkk
      go_wp2_with fail
      go_at_call 118; refine (number_small _ _ db dof dcap s q 1 _ rfl _ HLI.out.xi.r (by omega) a7).mono ?_
      rintro e w6 ⟨rfl, hr6, hf6⟩
      rw [HKK.out]
      have hV6 := HLI.out.vec.keep hf6 (fun b hb hs => by have := (HLI.out.vec.lt b hb).1; omega)
      have hT0 : LT w w6 db dof dcap s (.iface T u) blk k mb m E (.slice ba E.length bc) (s.drop (q + 1)) 0 (q + 1) [] (.slice none 0 0) :=
        ⟨HLI.out.xi.step hf6 hr6, HLI.out.sz.keep hf6 (by omega), hV6, Targs.nil _ _, rfl, rfl, Nat.zero_le _⟩
      have HT0 := Lib.hid hT0
      clear hr6 hf6 hV6 hT0
      go_wp2_with fail
      by_cases a8 : 8 < k
      · have HN := Lib.hid (readOf_none (show bodyN s = none by rw [EQ.out, if_pos a8]))
        go_at_call 116; refine Calls.mono (must_badb _ _ T u HT0.out.xi.r.form _ ?_) ?_
        · exact decide_eq_false (by omega)
        rintro e w' ⟨rfl, rfl⟩
        exact HT0.out.xi.die (Fr.refl _ _) HN.out _ rfl rfl
      go_at_call 116; refine Calls.mono (must_okb _ _ _ ?_) ?_
      · exact decide_eq_true (by omega)
      rintro e w' ⟨rfl, rfl⟩
      replace EQ := Lib.hid (show bodyN s = (match targsF blk E k [] (s.drop (q + 1)) with | none => none | some (ts, r) => some (⟨blk, E, ts⟩, r)) by rw [EQ.out, if_neg a8])
      have hk8 : k ≤ 8 := by omega
      go_wp2_with fail
      go_loopw [7, 73] (fun lv iv wr => ∃ (j q2 : Nat) (mt : List MT) (tv : Value), lv = .string ⟨(lastT E (mt.map (·.t))).toArray⟩ ∧ iv = .int .i64 j ∧ LT w wr db dof dcap s (.iface T u) blk k mb m E (.slice ba E.length bc) (s.drop (q + 1)) j q2 mt tv) (fun _ iv _ => k - (intOf iv).toNat)
      case atStart => exact ⟨0, q + 1, [], _, rfl, rfl, HT0.out⟩
      case round =>
        obtain ⟨j, q2, mt, tv, rfl, rfl, hlt2⟩ := hrel
        have hjk := hlt2.le
        have hlen := hlt2.len
        have hqz2 := hlt2.xi.r.le
        have hwz2 : w.heap.size + 3 ≤ wr.heap.size := by have := hlt2.xi.r.own.lt; omega
        obtain ⟨ta, tc, htv, -⟩ := hlt2.tg.vec.shape
        subst htv
        have HLT := Lib.hid hlt2
        by_cases hlt3 : j < k
        · have hji : ((j : Int) == 0) = mt.isEmpty := by
            cases mt with
            | nil =>
              have : j = 0 := by simpa using hlen.symm
              subst this; rfl
            | cons a l =>
              have : j ≠ 0 := by simp at hlen; omega
              show _ = false
              rw [beq_eq_false_iff_ne]; omega
          have hen := entry_any wr (w.heap.size + 1 + 1) db dof dcap s q2 T u hlt2.xi.r ⟨(lastT E (mt.map (·.t))).toArray⟩ mt.isEmpty
          rw [show (⟨(lastT E (mt.map (·.t))).toArray⟩ : ByteArray).data.toList = lastT E (mt.map (·.t)) from by simp] at hen
          have HEN := Lib.hid hen
          have hstep : targsF blk E (k - j) (mt.map (·.t)) (s.drop q2) = (match entN (lastT E (mt.map (·.t))) mt.isEmpty (s.drop q2) with
            | none => none
            | some (e, r) => match tksN blk (sizeIn E e.name) e.size r with | none => none | some (l, r) => targsF blk E (k - (j + 1)) (mt.map (·.t) ++ [⟨e, l⟩]) r) := by
            rw [show k - j = (k - (j + 1)) + 1 by omega, show mt.isEmpty = (mt.map (·.t)).isEmpty by simp]; rfl
          have HSTEP := Lib.hid hstep
          have HLEN := Lib.hid hlen
          have hml : mt.length ≤ 8 := by omega
          clear hen hstep hlt2 hlen
          cases hN : entN (lastT E (mt.map (·.t))) mt.isEmpty (s.drop q2) with
          | none =>
            have HN := Lib.hid (readOf_none (show bodyN s = none by rw [EQ.out, HLT.out.at_, HSTEP.out, hN]))
            rw [hN] at HEN
            go_wp2_with fail
            go_at_call 119; refine HEN.out.mono ?_
            rintro e w' ⟨hf, rfl⟩
            exact HLT.out.xi.die hf HN.out _ rfl rfl
          | some xr =>
            obtain ⟨x, r⟩ := xr
            rw [hN] at HEN
            have HS2 := Lib.hid (show targsF blk E k [] (s.drop (q + 1)) = (match tksN blk (sizeIn E x.name) x.size r with | none => none | some (l, r) => targsF blk E (k - (j + 1)) (mt.map (·.t) ++ [⟨x, l⟩]) r) by rw [HLT.out.at_, HSTEP.out, hN])
            have hnm := entN_name hN
            clear hN
            go_wp2_with fail
            go_at_call 119; refine HEN.out.mono ?_
            rintro e w7 ⟨hf7, q3, rfl, rfl, hr7⟩
            have hX8 := (HLT.out.xi.step hf7 hr7).keep0 ((Fr.refl (fun _ => False) w7).alloc (.cells #[.string ⟨x.name.toArray⟩, .int .i64 x.size, .int .u64 x.dig] 152))
            have hS8 := (HLT.out.sz.keep hf7 (by omega)).keep ((Fr.refl (fun _ => False) w7).alloc (.cells #[.string ⟨x.name.toArray⟩, .int .i64 x.size, .int .u64 x.dig] 152)) id
            have hV8 := (HLT.out.vec.keep hf7 (fun b hb hs => by have := (HLT.out.vec.lt b hb).1; omega)).keep ((Fr.refl (fun _ => False) w7).alloc (.cells #[.string ⟨x.name.toArray⟩, .int .i64 x.size, .int .u64 x.dig] 152)) (fun _ _ h => h)
            have hO8 := Own.alloc w7 #[.string ⟨x.name.toArray⟩, .int .i64 x.size, .int .u64 x.dig] 152
            have hT8 := (HLT.out.tg.below hf7 (fun b hb => by subst hb; omega)).below ((Fr.refl (fun _ => False) w7).alloc (.cells #[.string ⟨x.name.toArray⟩, .int .i64 x.size, .int .u64 x.dig] 152)) (fun b hb => hb.elim)
            have hz7 := hf7.size
            have hz8 : (w7.alloc (.cells #[.string ⟨x.name.toArray⟩, .int .i64 x.size, .int .u64 x.dig] 152)).heap.size = w7.heap.size + 1 := by simp
            obtain ⟨eb, heb⟩ : ∃ eb, w7.heap.size = eb := ⟨_, rfl⟩
            have g0 := hO8.cell (i := 0) rfl
            clear hr7 hf7
            go_wp2_with fail
            rw [heb] at hO8 hz8
            clear g0
            generalize w7.alloc (.cells #[.string ⟨x.name.toArray⟩, .int .i64 x.size, .int .u64 x.dig] 152) = w8 at *
            have g0 := hO8.cell (i := 0) rfl
            have g1 := hO8.cell (i := 1) rfl
            have g2 := hO8.cell (i := 2) rfl
            have x0 := hX8.x.cell (i := 0) rfl
            have x2 := hX8.x.cell (i := 2) rfl
            have xf := hX8.x.free 2 (by simp)
            have HX8 := Lib.hid hX8
            have HS8 := Lib.hid hS8
            have HV8 := Lib.hid hV8
            have HO8 := Lib.hid hO8
            have HT8 := Lib.hid hT8
            have hlook := (hS8.keep (Fr.drew (Fr.refl (fun _ => False) w8)) id).look x.name (by omega)
            have hsl := sizeIn_le E x.name hsz.out
            have htk := fun (W : World) (h : RD W (w.heap.size + 1 + 1) db dof dcap s q3 (.iface T u)) => rtokens_any W (w.heap.size + 1 + 1) db dof dcap s q3 T u h blk (sizeIn E x.name) x.size (by omega) (by omega) hsl hnm.2
            have HTK := Lib.hid htk
            clear hX8 hS8 hV8 hO8 hT8 htk
            cases hN2 : tksN blk (sizeIn E x.name) x.size (s.drop q3) with
            | none =>
              have HN := Lib.hid (readOf_none (show bodyN s = none by rw [EQ.out, HS2.out, hN2]))
              have hSok : ∀ (W : World) (b1 b2 : Value), Own W eb 152 [.string ⟨x.name.toArray⟩, .int .i64 x.size, .int .u64 x.dig] → Own W w.heap.size 146 [.int .i64 blk, b1, b2] → Sizes W mb m E → (fun w' => w'.cell? ⟨eb, 0, none⟩ = some (.string ⟨x.name.toArray⟩) ∧ w'.cell? ⟨eb, 1, none⟩ = some (.int .i64 x.size) ∧ w'.cell? ⟨eb, 2, none⟩ = some (.int .u64 x.dig) ∧ w'.cell? ⟨w.heap.size, 0, none⟩ = some (.int .i64 blk) ∧ (Instr.lookup 228 (.map (some mb)) (.string ⟨x.name.toArray⟩) false).run Tryz.prog w' = .ok (.int .i64 (sizeIn E x.name)) w') W :=
                fun W b1 b2 h1 h2 h3 => ⟨h1.cell (i := 0) rfl, h1.cell (i := 1) rfl, h1.cell (i := 2) rfl, h2.cell (i := 0) rfl, h3.look x.name (by omega)⟩
              have HSOK := Lib.hid (fun (W : World) {b1 b2 : Value} h1 h2 h3 => hSok W b1 b2 h1 h2 h3)
              clear hSok
              rw [hN2] at HTK
              have hS0 : (fun w' => w'.cell? ⟨eb, 0, none⟩ = some (.string ⟨x.name.toArray⟩) ∧ w'.cell? ⟨eb, 1, none⟩ = some (.int .i64 x.size) ∧ w'.cell? ⟨eb, 2, none⟩ = some (.int .u64 x.dig) ∧ w'.cell? ⟨w.heap.size, 0, none⟩ = some (.int .i64 blk) ∧ (Instr.lookup 228 (.map (some mb)) (.string ⟨x.name.toArray⟩) false).run Tryz.prog w' = .ok (.int .i64 (sizeIn E x.name)) w') w8.drew := ⟨by simpa using g0, by simpa using g1, by simpa using g2, by simpa using x0, hlook⟩
              refine wp_region_held_drew (S := (fun w' => w'.cell? ⟨eb, 0, none⟩ = some (.string ⟨x.name.toArray⟩) ∧ w'.cell? ⟨eb, 1, none⟩ = some (.int .i64 x.size) ∧ w'.cell? ⟨eb, 2, none⟩ = some (.int .u64 x.dig) ∧ w'.cell? ⟨w.heap.size, 0, none⟩ = some (.int .i64 blk) ∧ (Instr.lookup 228 (.map (some mb)) (.string ⟨x.name.toArray⟩) false).run Tryz.prog w' = .ok (.int .i64 (sizeIn E x.name)) w')) (by kernel_rfl) hS0 (fun hHeld => ?_)
              refine wpAnyH_take (i := 0) (v := ?_) rfl (by kernel_rfl) (by kernel_rfl) (by kernel_rfl) (fun c a w h => rd_put _ _ c a w 83 _ (by omega) h) (Or.inl ⟨by rfl, ?_⟩) (by assumption) ?_
              rotate_left
              · (intro w hSw; obtain ⟨s0, s1, s2, s3, s4⟩ := hSw; go_simp; try with_reducible rfl)
              try simp only [Act.put, List.setIfInBounds_toArray, List.set_cons_zero, List.set_cons_succ]
              refine wpAnyH_take (i := 2) (v := ?_) rfl (by kernel_rfl) (by kernel_rfl) (by kernel_rfl) (fun c a w h => rd_put _ _ c a w 85 _ (by omega) h) (Or.inl ⟨by rfl, ?_⟩) (by assumption) ?_
              rotate_left
              · (intro w hSw; obtain ⟨s0, s1, s2, s3, s4⟩ := hSw; go_simp; try with_reducible rfl)
              try simp only [Act.put, List.setIfInBounds_toArray, List.set_cons_zero, List.set_cons_succ]
              refine wpAnyH_take (i := 3) (v := ?_) rfl (by kernel_rfl) (by kernel_rfl) (by kernel_rfl) (fun c a w h => rd_put _ _ c a w 86 _ (by omega) h) (Or.inl ⟨by rfl, ?_⟩) (by assumption) ?_
              rotate_left
              · (intro w hSw; obtain ⟨s0, s1, s2, s3, s4⟩ := hSw; go_simp; try with_reducible rfl)
              try simp only [Act.put, List.setIfInBounds_toArray, List.set_cons_zero, List.set_cons_succ]
              refine wpAnyH_take (i := 4) (v := ?_) rfl (by kernel_rfl) (by kernel_rfl) (by kernel_rfl) (fun c a w h => rd_put _ _ c a w 87 _ (by omega) h) (Or.inl ⟨by rfl, ?_⟩) (by assumption) ?_
              rotate_left
              · (intro w hSw; obtain ⟨s0, s1, s2, s3, s4⟩ := hSw; go_simp; try with_reducible rfl)
              try simp only [Act.put, List.setIfInBounds_toArray, List.set_cons_zero, List.set_cons_succ]
              refine wpAnyH_take (i := 5) (v := ?_) rfl (by kernel_rfl) (by kernel_rfl) (by kernel_rfl) (fun c a w h => rd_put _ _ c a w 88 _ (by omega) h) (Or.inl ⟨by rfl, ?_⟩) (by assumption) ?_
              rotate_left
              · (intro w hSw; obtain ⟨s0, s1, s2, s3, s4⟩ := hSw; go_simp; try with_reducible rfl)
              try simp only [Act.put, List.setIfInBounds_toArray, List.set_cons_zero, List.set_cons_succ]
              refine wpAnyH_take (i := 6) (v := ?_) rfl (by kernel_rfl) (by kernel_rfl) (by kernel_rfl) (fun c a w h => rd_put _ _ c a w 89 _ (by omega) h) (Or.inl ⟨by rfl, ?_⟩) (by assumption) ?_
              rotate_left
              · (intro w hSw; obtain ⟨s0, s1, s2, s3, s4⟩ := hSw; go_simp; try with_reducible rfl)
              try simp only [Act.put, List.setIfInBounds_toArray, List.set_cons_zero, List.set_cons_succ]
              refine wpAnyH_take (i := 7) (v := ?_) rfl (by kernel_rfl) (by kernel_rfl) (by kernel_rfl) (fun c a w h => rd_put _ _ c a w 90 _ (by omega) h) (Or.inl ⟨by rfl, ?_⟩) (by assumption) ?_
              rotate_left
              · (intro w hSw; obtain ⟨s0, s1, s2, s3, s4⟩ := hSw; go_simp; try with_reducible rfl)
              try simp only [Act.put, List.setIfInBounds_toArray, List.set_cons_zero, List.set_cons_succ]
              refine wpAnyH_take (i := 8) (v := ?_) rfl (by kernel_rfl) (by kernel_rfl) (by kernel_rfl) (fun c a w h => rd_put _ _ c a w 91 _ (by omega) h) (Or.inl ⟨by rfl, ?_⟩) (by assumption) ?_
              rotate_left
              · (intro w hSw; obtain ⟨s0, s1, s2, s3, s4⟩ := hSw; go_simp; try with_reducible rfl)
              try simp only [Act.put, List.setIfInBounds_toArray, List.set_cons_zero, List.set_cons_succ]
              refine wpAnyH_take (i := 9) (v := ?_) rfl (by kernel_rfl) (by kernel_rfl) (by kernel_rfl) (fun c a w h => rd_put _ _ c a w 92 _ (by omega) h) (Or.inl ⟨by rfl, ?_⟩) (by assumption) ?_
              rotate_left
              · (intro w hSw; obtain ⟨s0, s1, s2, s3, s4⟩ := hSw; go_simp; try with_reducible rfl)
              try simp only [Act.put, List.setIfInBounds_toArray, List.set_cons_zero, List.set_cons_succ]
              refine wpAnyH_take (i := 10) (v := ?_) rfl (by kernel_rfl) (by kernel_rfl) (by kernel_rfl) (fun c a w h => rd_put _ _ c a w 93 _ (by omega) h) (Or.inl ⟨by rfl, ?_⟩) (by assumption) ?_
              rotate_left
              · (intro w hSw; obtain ⟨s0, s1, s2, s3, s4⟩ := hSw; go_simp; try with_reducible rfl)
              try simp only [Act.put, List.setIfInBounds_toArray, List.set_cons_zero, List.set_cons_succ]
              refine wpAnyH_take (i := 11) (v := ?_) rfl (by kernel_rfl) (by kernel_rfl) (by kernel_rfl) (fun c a w h => rd_put _ _ c a w 94 _ (by omega) h) (Or.inl ⟨by rfl, ?_⟩) (by assumption) ?_
              rotate_left
              · (intro w hSw; obtain ⟨s0, s1, s2, s3, s4⟩ := hSw; go_simp; try with_reducible rfl)
              try simp only [Act.put, List.setIfInBounds_toArray, List.set_cons_zero, List.set_cons_succ]
              refine wpAnyH_ready (rs := [1, 12]) (by kernel_rfl) (by simp) ?_
              refine AllReadyH.cons rfl (fun K hK => ?_) ?_
              · go_simp
                refine hK.out _ _ hHeld (fun hHeld2 => ?_)
                clear hK K hHeld
                try simp only [Act.put, List.setIfInBounds_toArray, List.set_cons_zero, List.set_cons_succ]
                refine wpAnyH_ready (rs := [12]) (by kernel_rfl) (by simp) ?_
                refine AllReadyH.cons rfl (fun K hK => ?_) AllReadyH.nil
                go_simp
                go_at_call 120
                refine (HTK.out _ (HX8.out.r.keep (Fr.drew (Fr.refl (fun _ => False) _)) id id id)).mono ?_
                rintro e w' ⟨hf, rfl⟩
                exact (HX8.out.keep0 (Fr.drew (Fr.refl (fun _ => False) _))).die hf HN.out _ rfl rfl
              · refine AllReadyH.cons rfl (fun K hK => ?_) AllReadyH.nil
                go_simp
                go_at_call 120
                refine (HTK.out _ (HX8.out.r.keep (Fr.drew (Fr.refl (fun _ => False) _)) id id id)).mono ?_
                rintro e w' ⟨hf, rfl⟩
                exact (HX8.out.keep0 (Fr.drew (Fr.refl (fun _ => False) _))).die hf HN.out _ rfl rfl
            | some lr =>
              obtain ⟨lt, r⟩ := lr
              have hSok : ∀ (W : World) (b1 b2 : Value), Own W eb 152 [.string ⟨x.name.toArray⟩, .int .i64 x.size, .int .u64 x.dig] → Own W w.heap.size 146 [.int .i64 blk, b1, b2] → Sizes W mb m E → (fun w' => w'.cell? ⟨eb, 0, none⟩ = some (.string ⟨x.name.toArray⟩) ∧ w'.cell? ⟨eb, 1, none⟩ = some (.int .i64 x.size) ∧ w'.cell? ⟨eb, 2, none⟩ = some (.int .u64 x.dig) ∧ w'.cell? ⟨w.heap.size, 0, none⟩ = some (.int .i64 blk) ∧ (Instr.lookup 228 (.map (some mb)) (.string ⟨x.name.toArray⟩) false).run Tryz.prog w' = .ok (.int .i64 (sizeIn E x.name)) w') W :=
                fun W b1 b2 h1 h2 h3 => ⟨h1.cell (i := 0) rfl, h1.cell (i := 1) rfl, h1.cell (i := 2) rfl, h2.cell (i := 0) rfl, h3.look x.name (by omega)⟩
              have HSOK := Lib.hid (fun (W : World) {b1 b2 : Value} h1 h2 h3 => hSok W b1 b2 h1 h2 h3)
              clear hSok
              rw [hN2] at HTK
              refine wp_region_noPanic ?_
              have hS0 : (fun w' => w'.cell? ⟨eb, 0, none⟩ = some (.string ⟨x.name.toArray⟩) ∧ w'.cell? ⟨eb, 1, none⟩ = some (.int .i64 x.size) ∧ w'.cell? ⟨eb, 2, none⟩ = some (.int .u64 x.dig) ∧ w'.cell? ⟨w.heap.size, 0, none⟩ = some (.int .i64 blk) ∧ (Instr.lookup 228 (.map (some mb)) (.string ⟨x.name.toArray⟩) false).run Tryz.prog w' = .ok (.int .i64 (sizeIn E x.name)) w') w8.drew := ⟨by simpa using g0, by simpa using g1, by simpa using g2, by simpa using x0, hlook⟩
              refine wp_region_held_drew (S := (fun w' => w'.cell? ⟨eb, 0, none⟩ = some (.string ⟨x.name.toArray⟩) ∧ w'.cell? ⟨eb, 1, none⟩ = some (.int .i64 x.size) ∧ w'.cell? ⟨eb, 2, none⟩ = some (.int .u64 x.dig) ∧ w'.cell? ⟨w.heap.size, 0, none⟩ = some (.int .i64 blk) ∧ (Instr.lookup 228 (.map (some mb)) (.string ⟨x.name.toArray⟩) false).run Tryz.prog w' = .ok (.int .i64 (sizeIn E x.name)) w')) (by kernel_rfl) hS0 (fun hHeld => ?_)
              refine wpAnyH_take (i := 0) (v := ?_) rfl (by kernel_rfl) (by kernel_rfl) (by kernel_rfl) (fun _ _ _ h => h) (Or.inl ⟨by rfl, ?_⟩) (by assumption) ?_
              rotate_left
              · (intro w hSw; obtain ⟨s0, s1, s2, s3, s4⟩ := hSw; go_simp; try with_reducible rfl)
              try simp only [Act.put, List.setIfInBounds_toArray, List.set_cons_zero, List.set_cons_succ]
              refine wpAnyH_take (i := 2) (v := ?_) rfl (by kernel_rfl) (by kernel_rfl) (by kernel_rfl) (fun _ _ _ h => h) (Or.inl ⟨by rfl, ?_⟩) (by assumption) ?_
              rotate_left
              · (intro w hSw; obtain ⟨s0, s1, s2, s3, s4⟩ := hSw; go_simp; try with_reducible rfl)
              try simp only [Act.put, List.setIfInBounds_toArray, List.set_cons_zero, List.set_cons_succ]
              refine wpAnyH_take (i := 3) (v := ?_) rfl (by kernel_rfl) (by kernel_rfl) (by kernel_rfl) (fun _ _ _ h => h) (Or.inl ⟨by rfl, ?_⟩) (by assumption) ?_
              rotate_left
              · (intro w hSw; obtain ⟨s0, s1, s2, s3, s4⟩ := hSw; go_simp; try with_reducible rfl)
              try simp only [Act.put, List.setIfInBounds_toArray, List.set_cons_zero, List.set_cons_succ]
              refine wpAnyH_take (i := 4) (v := ?_) rfl (by kernel_rfl) (by kernel_rfl) (by kernel_rfl) (fun _ _ _ h => h) (Or.inl ⟨by rfl, ?_⟩) (by assumption) ?_
              rotate_left
              · (intro w hSw; obtain ⟨s0, s1, s2, s3, s4⟩ := hSw; go_simp; try with_reducible rfl)
              try simp only [Act.put, List.setIfInBounds_toArray, List.set_cons_zero, List.set_cons_succ]
              refine wpAnyH_take (i := 5) (v := ?_) rfl (by kernel_rfl) (by kernel_rfl) (by kernel_rfl) (fun _ _ _ h => h) (Or.inl ⟨by rfl, ?_⟩) (by assumption) ?_
              rotate_left
              · (intro w hSw; obtain ⟨s0, s1, s2, s3, s4⟩ := hSw; go_simp; try with_reducible rfl)
              try simp only [Act.put, List.setIfInBounds_toArray, List.set_cons_zero, List.set_cons_succ]
              refine wpAnyH_take (i := 6) (v := ?_) rfl (by kernel_rfl) (by kernel_rfl) (by kernel_rfl) (fun _ _ _ h => h) (Or.inl ⟨by rfl, ?_⟩) (by assumption) ?_
              rotate_left
              · (intro w hSw; obtain ⟨s0, s1, s2, s3, s4⟩ := hSw; go_simp; try with_reducible rfl)
              try simp only [Act.put, List.setIfInBounds_toArray, List.set_cons_zero, List.set_cons_succ]
              refine wpAnyH_take (i := 7) (v := ?_) rfl (by kernel_rfl) (by kernel_rfl) (by kernel_rfl) (fun _ _ _ h => h) (Or.inl ⟨by rfl, ?_⟩) (by assumption) ?_
              rotate_left
              · (intro w hSw; obtain ⟨s0, s1, s2, s3, s4⟩ := hSw; go_simp; try with_reducible rfl)
              try simp only [Act.put, List.setIfInBounds_toArray, List.set_cons_zero, List.set_cons_succ]
              refine wpAnyH_take (i := 8) (v := ?_) rfl (by kernel_rfl) (by kernel_rfl) (by kernel_rfl) (fun _ _ _ h => h) (Or.inl ⟨by rfl, ?_⟩) (by assumption) ?_
              rotate_left
              · (intro w hSw; obtain ⟨s0, s1, s2, s3, s4⟩ := hSw; go_simp; try with_reducible rfl)
              try simp only [Act.put, List.setIfInBounds_toArray, List.set_cons_zero, List.set_cons_succ]
              refine wpAnyH_take (i := 9) (v := ?_) rfl (by kernel_rfl) (by kernel_rfl) (by kernel_rfl) (fun _ _ _ h => h) (Or.inl ⟨by rfl, ?_⟩) (by assumption) ?_
              rotate_left
              · (intro w hSw; obtain ⟨s0, s1, s2, s3, s4⟩ := hSw; go_simp; try with_reducible rfl)
              try simp only [Act.put, List.setIfInBounds_toArray, List.set_cons_zero, List.set_cons_succ]
              refine wpAnyH_take (i := 10) (v := ?_) rfl (by kernel_rfl) (by kernel_rfl) (by kernel_rfl) (fun _ _ _ h => h) (Or.inl ⟨by rfl, ?_⟩) (by assumption) ?_
              rotate_left
              · (intro w hSw; obtain ⟨s0, s1, s2, s3, s4⟩ := hSw; go_simp; try with_reducible rfl)
              try simp only [Act.put, List.setIfInBounds_toArray, List.set_cons_zero, List.set_cons_succ]
              refine wpAnyH_take (i := 11) (v := ?_) rfl (by kernel_rfl) (by kernel_rfl) (by kernel_rfl) (fun _ _ _ h => h) (Or.inl ⟨by rfl, ?_⟩) (by assumption) ?_
              rotate_left
              · (intro w hSw; obtain ⟨s0, s1, s2, s3, s4⟩ := hSw; go_simp; try with_reducible rfl)
              try simp only [Act.put, List.setIfInBounds_toArray, List.set_cons_zero, List.set_cons_succ]
              refine wpAnyH_ready (rs := [1, 12]) (by kernel_rfl) (by simp) ?_
              refine AllReadyH.cons rfl (fun K hK => ?_) ?_
              · go_simp
                refine hK.out _ _ hHeld (fun hHeld2 => ?_)
                clear hK K hHeld
                try simp only [Act.put, List.setIfInBounds_toArray, List.set_cons_zero, List.set_cons_succ]
                have hHeld := hHeld2
                refine wpAnyH_ready (rs := [12]) (by kernel_rfl) (by simp) ?_
                refine AllReadyH.cons rfl (fun K hK => ?_) AllReadyH.nil
                go_simp
                go_at_call 120
                refine (HTK.out _ (HX8.out.r.keep (Fr.drew (Fr.refl (fun _ => False) _)) id id id)).mono ?_
                rintro e w9 ⟨hf9, tv9, lt9, q4, rfl, hot9, hlt9, rfl, hr9⟩
                obtain ⟨a9, c9, hsh9, -⟩ := hot9.vec.shape
                subst hsh9
                have HX9 := Lib.hid ((HX8.out.keep0 (Fr.drew (Fr.refl (fun _ => False) _))).step hf9 hr9)
                have HO9 := Lib.hid ((HO8.out.keep (Fr.drew (Fr.refl (fun _ => False) _)) id).keep hf9 (by omega))
                have HS9 := Lib.hid ((HS8.out.keep (Fr.drew (Fr.refl (fun _ => False) _)) id).keep hf9 (by omega))
                have HF9 := Lib.hid hf9
                have HOT9 := Lib.hid hot9
                have HLT9 := Lib.hid hlt9
                have HT9 := Lib.hid ((HT8.out.below (Fr.drew (Fr.refl (fun _ => False) _)) (fun b hb => hb.elim)).below hf9 (fun b hb => by subst hb; omega))
                have hz9 := hf9.size
                have y2 := HX9.out.x.cell (i := 2) rfl
                have yl : w.heap.size < w9.heap.size := HX9.out.x.lt
                clear hf9 hot9 hlt9 hr9
                refine hK.out _ _ (HSOK.out _ HO9.out HX9.out.x HS9.out) (fun hHeld9 => ?_)
                clear hK K hHeld
                try simp only [Act.put, List.setIfInBounds_toArray, List.set_cons_zero, List.set_cons_succ]
                refine wpAnyH_take (i := 13) (v := ?_) rfl (by kernel_rfl) (by kernel_rfl) (by kernel_rfl) (fun _ _ _ h => h) (Or.inl ⟨by rfl, ?_⟩) (by assumption) ?_
                rotate_left
                · (intro w hSw; obtain ⟨s0, s1, s2, s3, s4⟩ := hSw; go_simp; try with_reducible rfl)
                try simp only [Act.put, List.setIfInBounds_toArray, List.set_cons_zero, List.set_cons_succ]

                refine wpAnyH_ready (rs := [14]) (by kernel_rfl) (by simp) ?_
                refine AllReadyH.cons rfl (fun K hK => ?_) ?_
                · go_simp
                  refine hK.out _ _ (HSOK.out _ (HO9.out.keep ((Fr.refl (fun _ => False) _).alloc _) id) (HX9.out.x.keep ((Fr.refl (fun _ => False) _).alloc _) id) (HS9.out.keep ((Fr.refl (fun _ => False) _).alloc _) id)) (fun hHeld10 => ?_)
                  clear hK K hHeld9
                  try simp only [Act.put, List.setIfInBounds_toArray, List.set_cons_zero, List.set_cons_succ]
                  refine wpAnyH_ready (rs := [15]) (by kernel_rfl) (by simp) ?_
                  refine AllReadyH.cons rfl (fun K hK => ?_) AllReadyH.nil
                  rw [if_pos (by rfl)]
                  refine wp_append_vec (.tmp 84) (.tmp 97) 144 rfl (w.heap.size + 3) 155 4 56 elt_targ (v := .slice ta mt.length tc) (n := mt.length) (xs := targCells mt) (HT9.out.vec.keep ((Fr.refl (fun _ => False) _).alloc _) (fun _ _ h => h)) rfl (m := 1) (Reads.new _ _ _ _ (by simp) _ _) rfl rfl (targ_one ⟨⟨x, lt⟩, .slice a9 lt9.length c9, lt9⟩ a9 _ c9 rfl) (by unfold maxLen; omega) (by omega) (by simp at hz9 ⊢; omega) ?_
                  intro v11 w11 hv11 hf11 hd11
                  obtain ⟨a11, c11, hsh11, -⟩ := hv11.shape
                  subst hsh11
                  have HX11 := Lib.hid ((HX9.out.keep0 ((Fr.refl (fun _ => False) _).alloc (.cells #[.string ⟨x.name.toArray⟩, .int .i64 x.size, .int .u64 x.dig, .slice a9 lt9.length c9] 155))).keep hf11 (fun k hk => (HT9.out.vec.lt k hk).1))
                  have HO11 := Lib.hid ((HO9.out.keep ((Fr.refl (fun _ => False) _).alloc (.cells #[.string ⟨x.name.toArray⟩, .int .i64 x.size, .int .u64 x.dig, .slice a9 lt9.length c9] 155)) id).keep hf11 (HT9.out.vec.apartT HO9.out (by decide)))
                  have HS11 := Lib.hid ((HS9.out.keep ((Fr.refl (fun _ => False) _).alloc (.cells #[.string ⟨x.name.toArray⟩, .int .i64 x.size, .int .u64 x.dig, .slice a9 lt9.length c9] 155)) id).keep hf11 (HS9.out.apartV HT9.out.vec))
                  have HV11 := Lib.hid hv11
                  have HF11 := Lib.hid hf11
                  have z2 := HX11.out.x.cell (i := 2) rfl
                  have zf := HX11.out.x.free 2 (by simp)
                  clear hv11 hf11 hd11
                  refine hK.out _ _ (HSOK.out _ HO11.out HX11.out.x HS11.out) (fun hHeld11 => ?_)
                  clear hK K hHeld10
                  try simp only [Act.put, List.setIfInBounds_toArray, List.set_cons_zero, List.set_cons_succ]
                  refine wpAnyH_take (i := 16) (v := ?_) rfl (by kernel_rfl) (by kernel_rfl) (by kernel_rfl) (fun _ _ _ h => h) (Or.inl ⟨by rfl, ?_⟩) (by assumption) ?_
                  rotate_left
                  · (intro w hSw; obtain ⟨s0, s1, s2, s3, s4⟩ := hSw; go_simp; try with_reducible rfl)
                  try simp only [Act.put, List.setIfInBounds_toArray, List.set_cons_zero, List.set_cons_succ]
                  refine wpAnyH_ready (rs := [17]) (by kernel_rfl) (by simp) ?_
                  refine AllReadyH.cons rfl (fun K hK => ?_) AllReadyH.nil
                  go_simp
                  have hs12 : Fr (fun k => k = w.heap.size) w11 (w11.setCell ⟨w.heap.size, 2, none⟩ (.slice a11 (mt.length + 1) c11)) := (Fr.refl _ _).setCell _ _ (fun _ => rfl)
                  have HX12 := Lib.hid (HX11.out.set 2 (.slice a11 (mt.length + 1) c11) blk (.slice ba E.length bc) (.slice a11 (mt.length + 1) c11) rfl)
                  refine hK.out _ _ (HSOK.out _ (HO11.out.keep hs12 (by omega)) HX12.out.x (HS11.out.keep hs12 (by omega))) (fun hHeld12 => ?_)
                  clear hK K hHeld11
                  try simp only [Act.put, List.setIfInBounds_toArray, List.set_cons_zero, List.set_cons_succ]
                  refine wpAnyH_done (by kernel_rfl) ?_ _
                  refine NoPanic.normal ?_
                  go_wp2_with fail
                  have hA10 : Fr (fun b => b < w.heap.size + 3) w8 (w9.alloc (.cells #[.string ⟨x.name.toArray⟩, .int .i64 x.size, .int .u64 x.dig, .slice a9 lt9.length c9] 155)) :=
                    (((Fr.drew (Fr.refl (fun _ => False) w8)).mono (fun _ h _ => h.elim)).step HF9.out (fun b hb hl => by omega)).alloc _
                  have hOTa := HOT9.out.keep0 ((Fr.refl (fun _ => False) w9).alloc (.cells #[.string ⟨x.name.toArray⟩, .int .i64 x.size, .int .u64 x.dig, .slice a9 lt9.length c9] 155))
                  have hsn := Targs.snoc (x := ⟨⟨x, lt⟩, .slice a9 lt9.length c9, lt9⟩) HT8.out hA10 hOTa HLT9.out (by omega) HV11.out HF11.out
                  have hvb := ((HV8.out.keep (Fr.drew (Fr.refl (fun _ => False) w8)) (fun _ _ h => h)).keep HF9.out (fun b hb hs => by have := (HV8.out.lt b hb).1; omega)).keep ((Fr.refl (fun _ => False) w9).alloc (.cells #[.string ⟨x.name.toArray⟩, .int .i64 x.size, .int .u64 x.dig, .slice a9 lt9.length c9] 155)) (fun _ _ h => h)
                  have hta := HT9.out.vec.keep ((Fr.refl (fun _ => False) w9).alloc (.cells #[.string ⟨x.name.toArray⟩, .int .i64 x.size, .int .u64 x.dig, .slice a9 lt9.length c9] 155)) (fun _ _ h => h)
                  have hvb2 := hvb.keep HF11.out (fun b hb => hvb.apartV hta (by decide) b hb)
                  have hat2 := HS2.out
                  rw [hN2] at hat2
                  refine ⟨⟨j + 1, q4, mt ++ [⟨⟨x, lt⟩, .slice a9 lt9.length c9, lt9⟩], .slice a11 (mt.length + 1) c11, ?_, by go_num, ⟨HX12.out, HS11.out.keep hs12 (by omega), hvb2.keep hs12 (fun b hb hs => by have := (hvb2.lt b hb).1; omega), hsn.below hs12 (fun b hb => by omega), ?_, by simp [HLEN.out], by omega⟩⟩, by simp [intOf]; omega⟩
                  · rw [List.map_append, List.map_singleton, lastT_snoc]
                  · rw [List.map_append, List.map_singleton]
                    exact hat2
                · exact AllReadyH.nil
              refine AllReadyH.cons rfl (fun K hK => ?_) AllReadyH.nil
              go_simp
              go_at_call 120
              refine (HTK.out _ (HX8.out.r.keep (Fr.drew (Fr.refl (fun _ => False) _)) id id id)).mono ?_
              rintro e w9 ⟨hf9, tv9, lt9, q4, rfl, hot9, hlt9, rfl, hr9⟩
              obtain ⟨a9, c9, hsh9, -⟩ := hot9.vec.shape
              subst hsh9
              have HX9 := Lib.hid ((HX8.out.keep0 (Fr.drew (Fr.refl (fun _ => False) _))).step hf9 hr9)
              have HO9 := Lib.hid ((HO8.out.keep (Fr.drew (Fr.refl (fun _ => False) _)) id).keep hf9 (by omega))
              have HS9 := Lib.hid ((HS8.out.keep (Fr.drew (Fr.refl (fun _ => False) _)) id).keep hf9 (by omega))
              have HF9 := Lib.hid hf9
              have HOT9 := Lib.hid hot9
              have HLT9 := Lib.hid hlt9
              have HT9 := Lib.hid ((HT8.out.below (Fr.drew (Fr.refl (fun _ => False) _)) (fun b hb => hb.elim)).below hf9 (fun b hb => by subst hb; omega))
              have hz9 := hf9.size
              have y2 := HX9.out.x.cell (i := 2) rfl
              have yl : w.heap.size < w9.heap.size := HX9.out.x.lt
              clear hf9 hot9 hlt9 hr9
              refine hK.out _ _ (HSOK.out _ HO9.out HX9.out.x HS9.out) (fun hHeld9 => ?_)
              clear hK K hHeld
              try simp only [Act.put, List.setIfInBounds_toArray, List.set_cons_zero, List.set_cons_succ]
              refine wpAnyH_take (i := 13) (v := ?_) rfl (by kernel_rfl) (by kernel_rfl) (by kernel_rfl) (fun _ _ _ h => h) (Or.inl ⟨by rfl, ?_⟩) (by assumption) ?_
              rotate_left
              · (intro w hSw; obtain ⟨s0, s1, s2, s3, s4⟩ := hSw; go_simp; try with_reducible rfl)
              try simp only [Act.put, List.setIfInBounds_toArray, List.set_cons_zero, List.set_cons_succ]

              refine wpAnyH_ready (rs := [1, 14]) (by kernel_rfl) (by simp) ?_
              refine AllReadyH.cons rfl (fun K hK => ?_) ?_
              · go_simp
                refine hK.out _ _ hHeld9 (fun hHeld99 => ?_)
                clear hK K hHeld9
                have hHeld9 := hHeld99
                clear hHeld99
                try simp only [Act.put, List.setIfInBounds_toArray, List.set_cons_zero, List.set_cons_succ]
                refine wpAnyH_ready (rs := [14]) (by kernel_rfl) (by simp) ?_
                refine AllReadyH.cons rfl (fun K hK => ?_) ?_
                · go_simp
                  refine hK.out _ _ (HSOK.out _ (HO9.out.keep ((Fr.refl (fun _ => False) _).alloc _) id) (HX9.out.x.keep ((Fr.refl (fun _ => False) _).alloc _) id) (HS9.out.keep ((Fr.refl (fun _ => False) _).alloc _) id)) (fun hHeld10 => ?_)
                  clear hK K hHeld9
                  try simp only [Act.put, List.setIfInBounds_toArray, List.set_cons_zero, List.set_cons_succ]
                  refine wpAnyH_ready (rs := [15]) (by kernel_rfl) (by simp) ?_
                  refine AllReadyH.cons rfl (fun K hK => ?_) AllReadyH.nil
                  rw [if_pos (by rfl)]
                  refine wp_append_vec (.tmp 84) (.tmp 97) 144 rfl (w.heap.size + 3) 155 4 56 elt_targ (v := .slice ta mt.length tc) (n := mt.length) (xs := targCells mt) (HT9.out.vec.keep ((Fr.refl (fun _ => False) _).alloc _) (fun _ _ h => h)) rfl (m := 1) (Reads.new _ _ _ _ (by simp) _ _) rfl rfl (targ_one ⟨⟨x, lt⟩, .slice a9 lt9.length c9, lt9⟩ a9 _ c9 rfl) (by unfold maxLen; omega) (by omega) (by simp at hz9 ⊢; omega) ?_
                  intro v11 w11 hv11 hf11 hd11
                  obtain ⟨a11, c11, hsh11, -⟩ := hv11.shape
                  subst hsh11
                  have HX11 := Lib.hid ((HX9.out.keep0 ((Fr.refl (fun _ => False) _).alloc (.cells #[.string ⟨x.name.toArray⟩, .int .i64 x.size, .int .u64 x.dig, .slice a9 lt9.length c9] 155))).keep hf11 (fun k hk => (HT9.out.vec.lt k hk).1))
                  have HO11 := Lib.hid ((HO9.out.keep ((Fr.refl (fun _ => False) _).alloc (.cells #[.string ⟨x.name.toArray⟩, .int .i64 x.size, .int .u64 x.dig, .slice a9 lt9.length c9] 155)) id).keep hf11 (HT9.out.vec.apartT HO9.out (by decide)))
                  have HS11 := Lib.hid ((HS9.out.keep ((Fr.refl (fun _ => False) _).alloc (.cells #[.string ⟨x.name.toArray⟩, .int .i64 x.size, .int .u64 x.dig, .slice a9 lt9.length c9] 155)) id).keep hf11 (HS9.out.apartV HT9.out.vec))
                  have HV11 := Lib.hid hv11
                  have HF11 := Lib.hid hf11
                  have z2 := HX11.out.x.cell (i := 2) rfl
                  have zf := HX11.out.x.free 2 (by simp)
                  clear hv11 hf11 hd11
                  refine hK.out _ _ (HSOK.out _ HO11.out HX11.out.x HS11.out) (fun hHeld11 => ?_)
                  clear hK K hHeld10
                  try simp only [Act.put, List.setIfInBounds_toArray, List.set_cons_zero, List.set_cons_succ]
                  refine wpAnyH_take (i := 16) (v := ?_) rfl (by kernel_rfl) (by kernel_rfl) (by kernel_rfl) (fun _ _ _ h => h) (Or.inl ⟨by rfl, ?_⟩) (by assumption) ?_
                  rotate_left
                  · (intro w hSw; obtain ⟨s0, s1, s2, s3, s4⟩ := hSw; go_simp; try with_reducible rfl)
                  try simp only [Act.put, List.setIfInBounds_toArray, List.set_cons_zero, List.set_cons_succ]
                  refine wpAnyH_ready (rs := [17]) (by kernel_rfl) (by simp) ?_
                  refine AllReadyH.cons rfl (fun K hK => ?_) AllReadyH.nil
                  go_simp
                  have hs12 : Fr (fun k => k = w.heap.size) w11 (w11.setCell ⟨w.heap.size, 2, none⟩ (.slice a11 (mt.length + 1) c11)) := (Fr.refl _ _).setCell _ _ (fun _ => rfl)
                  have HX12 := Lib.hid (HX11.out.set 2 (.slice a11 (mt.length + 1) c11) blk (.slice ba E.length bc) (.slice a11 (mt.length + 1) c11) rfl)
                  refine hK.out _ _ (HSOK.out _ (HO11.out.keep hs12 (by omega)) HX12.out.x (HS11.out.keep hs12 (by omega))) (fun hHeld12 => ?_)
                  clear hK K hHeld11
                  try simp only [Act.put, List.setIfInBounds_toArray, List.set_cons_zero, List.set_cons_succ]
                  refine wpAnyH_done (by kernel_rfl) ?_ _
                  refine NoPanic.normal ?_
                  go_wp2_with fail
                  have hA10 : Fr (fun b => b < w.heap.size + 3) w8 (w9.alloc (.cells #[.string ⟨x.name.toArray⟩, .int .i64 x.size, .int .u64 x.dig, .slice a9 lt9.length c9] 155)) :=
                    (((Fr.drew (Fr.refl (fun _ => False) w8)).mono (fun _ h _ => h.elim)).step HF9.out (fun b hb hl => by omega)).alloc _
                  have hOTa := HOT9.out.keep0 ((Fr.refl (fun _ => False) w9).alloc (.cells #[.string ⟨x.name.toArray⟩, .int .i64 x.size, .int .u64 x.dig, .slice a9 lt9.length c9] 155))
                  have hsn := Targs.snoc (x := ⟨⟨x, lt⟩, .slice a9 lt9.length c9, lt9⟩) HT8.out hA10 hOTa HLT9.out (by omega) HV11.out HF11.out
                  have hvb := ((HV8.out.keep (Fr.drew (Fr.refl (fun _ => False) w8)) (fun _ _ h => h)).keep HF9.out (fun b hb hs => by have := (HV8.out.lt b hb).1; omega)).keep ((Fr.refl (fun _ => False) w9).alloc (.cells #[.string ⟨x.name.toArray⟩, .int .i64 x.size, .int .u64 x.dig, .slice a9 lt9.length c9] 155)) (fun _ _ h => h)
                  have hta := HT9.out.vec.keep ((Fr.refl (fun _ => False) w9).alloc (.cells #[.string ⟨x.name.toArray⟩, .int .i64 x.size, .int .u64 x.dig, .slice a9 lt9.length c9] 155)) (fun _ _ h => h)
                  have hvb2 := hvb.keep HF11.out (fun b hb => hvb.apartV hta (by decide) b hb)
                  have hat2 := HS2.out
                  rw [hN2] at hat2
                  refine ⟨⟨j + 1, q4, mt ++ [⟨⟨x, lt⟩, .slice a9 lt9.length c9, lt9⟩], .slice a11 (mt.length + 1) c11, ?_, by go_num, ⟨HX12.out, HS11.out.keep hs12 (by omega), hvb2.keep hs12 (fun b hb hs => by have := (hvb2.lt b hb).1; omega), hsn.below hs12 (fun b hb => by omega), ?_, by simp [HLEN.out], by omega⟩⟩, by simp [intOf]; omega⟩
                  · rw [List.map_append, List.map_singleton, lastT_snoc]
                  · rw [List.map_append, List.map_singleton]
                    exact hat2
                · exact AllReadyH.nil
              refine AllReadyH.cons rfl (fun K hK => ?_) ?_
              · go_simp
                refine hK.out _ _ (HSOK.out _ (HO9.out.keep ((Fr.refl (fun _ => False) _).alloc _) id) (HX9.out.x.keep ((Fr.refl (fun _ => False) _).alloc _) id) (HS9.out.keep ((Fr.refl (fun _ => False) _).alloc _) id)) (fun hHeld10 => ?_)
                clear hK K hHeld9
                try simp only [Act.put, List.setIfInBounds_toArray, List.set_cons_zero, List.set_cons_succ]
                refine wpAnyH_ready (rs := [1]) (by kernel_rfl) (by simp) ?_
                refine AllReadyH.cons rfl (fun K hK => ?_) AllReadyH.nil
                go_simp
                refine hK.out _ _ hHeld10 (fun hHeld99 => ?_)
                clear hK K hHeld10
                have hHeld10 := hHeld99
                clear hHeld99
                try simp only [Act.put, List.setIfInBounds_toArray, List.set_cons_zero, List.set_cons_succ]
                refine wpAnyH_ready (rs := [15]) (by kernel_rfl) (by simp) ?_
                refine AllReadyH.cons rfl (fun K hK => ?_) AllReadyH.nil
                rw [if_pos (by rfl)]
                refine wp_append_vec (.tmp 84) (.tmp 97) 144 rfl (w.heap.size + 3) 155 4 56 elt_targ (v := .slice ta mt.length tc) (n := mt.length) (xs := targCells mt) (HT9.out.vec.keep ((Fr.refl (fun _ => False) _).alloc _) (fun _ _ h => h)) rfl (m := 1) (Reads.new _ _ _ _ (by simp) _ _) rfl rfl (targ_one ⟨⟨x, lt⟩, .slice a9 lt9.length c9, lt9⟩ a9 _ c9 rfl) (by unfold maxLen; omega) (by omega) (by simp at hz9 ⊢; omega) ?_
                intro v11 w11 hv11 hf11 hd11
                obtain ⟨a11, c11, hsh11, -⟩ := hv11.shape
                subst hsh11
                have HX11 := Lib.hid ((HX9.out.keep0 ((Fr.refl (fun _ => False) _).alloc (.cells #[.string ⟨x.name.toArray⟩, .int .i64 x.size, .int .u64 x.dig, .slice a9 lt9.length c9] 155))).keep hf11 (fun k hk => (HT9.out.vec.lt k hk).1))
                have HO11 := Lib.hid ((HO9.out.keep ((Fr.refl (fun _ => False) _).alloc (.cells #[.string ⟨x.name.toArray⟩, .int .i64 x.size, .int .u64 x.dig, .slice a9 lt9.length c9] 155)) id).keep hf11 (HT9.out.vec.apartT HO9.out (by decide)))
                have HS11 := Lib.hid ((HS9.out.keep ((Fr.refl (fun _ => False) _).alloc (.cells #[.string ⟨x.name.toArray⟩, .int .i64 x.size, .int .u64 x.dig, .slice a9 lt9.length c9] 155)) id).keep hf11 (HS9.out.apartV HT9.out.vec))
                have HV11 := Lib.hid hv11
                have HF11 := Lib.hid hf11
                have z2 := HX11.out.x.cell (i := 2) rfl
                have zf := HX11.out.x.free 2 (by simp)
                clear hv11 hf11 hd11
                refine hK.out _ _ (HSOK.out _ HO11.out HX11.out.x HS11.out) (fun hHeld11 => ?_)
                clear hK K hHeld10
                try simp only [Act.put, List.setIfInBounds_toArray, List.set_cons_zero, List.set_cons_succ]
                refine wpAnyH_take (i := 16) (v := ?_) rfl (by kernel_rfl) (by kernel_rfl) (by kernel_rfl) (fun _ _ _ h => h) (Or.inl ⟨by rfl, ?_⟩) (by assumption) ?_
                rotate_left
                · (intro w hSw; obtain ⟨s0, s1, s2, s3, s4⟩ := hSw; go_simp; try with_reducible rfl)
                try simp only [Act.put, List.setIfInBounds_toArray, List.set_cons_zero, List.set_cons_succ]
                refine wpAnyH_ready (rs := [17]) (by kernel_rfl) (by simp) ?_
                refine AllReadyH.cons rfl (fun K hK => ?_) AllReadyH.nil
                go_simp
                have hs12 : Fr (fun k => k = w.heap.size) w11 (w11.setCell ⟨w.heap.size, 2, none⟩ (.slice a11 (mt.length + 1) c11)) := (Fr.refl _ _).setCell _ _ (fun _ => rfl)
                have HX12 := Lib.hid (HX11.out.set 2 (.slice a11 (mt.length + 1) c11) blk (.slice ba E.length bc) (.slice a11 (mt.length + 1) c11) rfl)
                refine hK.out _ _ (HSOK.out _ (HO11.out.keep hs12 (by omega)) HX12.out.x (HS11.out.keep hs12 (by omega))) (fun hHeld12 => ?_)
                clear hK K hHeld11
                try simp only [Act.put, List.setIfInBounds_toArray, List.set_cons_zero, List.set_cons_succ]
                refine wpAnyH_done (by kernel_rfl) ?_ _
                refine NoPanic.normal ?_
                go_wp2_with fail
                have hA10 : Fr (fun b => b < w.heap.size + 3) w8 (w9.alloc (.cells #[.string ⟨x.name.toArray⟩, .int .i64 x.size, .int .u64 x.dig, .slice a9 lt9.length c9] 155)) :=
                  (((Fr.drew (Fr.refl (fun _ => False) w8)).mono (fun _ h _ => h.elim)).step HF9.out (fun b hb hl => by omega)).alloc _
                have hOTa := HOT9.out.keep0 ((Fr.refl (fun _ => False) w9).alloc (.cells #[.string ⟨x.name.toArray⟩, .int .i64 x.size, .int .u64 x.dig, .slice a9 lt9.length c9] 155))
                have hsn := Targs.snoc (x := ⟨⟨x, lt⟩, .slice a9 lt9.length c9, lt9⟩) HT8.out hA10 hOTa HLT9.out (by omega) HV11.out HF11.out
                have hvb := ((HV8.out.keep (Fr.drew (Fr.refl (fun _ => False) w8)) (fun _ _ h => h)).keep HF9.out (fun b hb hs => by have := (HV8.out.lt b hb).1; omega)).keep ((Fr.refl (fun _ => False) w9).alloc (.cells #[.string ⟨x.name.toArray⟩, .int .i64 x.size, .int .u64 x.dig, .slice a9 lt9.length c9] 155)) (fun _ _ h => h)
                have hta := HT9.out.vec.keep ((Fr.refl (fun _ => False) w9).alloc (.cells #[.string ⟨x.name.toArray⟩, .int .i64 x.size, .int .u64 x.dig, .slice a9 lt9.length c9] 155)) (fun _ _ h => h)
                have hvb2 := hvb.keep HF11.out (fun b hb => hvb.apartV hta (by decide) b hb)
                have hat2 := HS2.out
                rw [hN2] at hat2
                refine ⟨⟨j + 1, q4, mt ++ [⟨⟨x, lt⟩, .slice a9 lt9.length c9, lt9⟩], .slice a11 (mt.length + 1) c11, ?_, by go_num, ⟨HX12.out, HS11.out.keep hs12 (by omega), hvb2.keep hs12 (fun b hb hs => by have := (hvb2.lt b hb).1; omega), hsn.below hs12 (fun b hb => by omega), ?_, by simp [HLEN.out], by omega⟩⟩, by simp [intOf]; omega⟩
                · rw [List.map_append, List.map_singleton, lastT_snoc]
                · rw [List.map_append, List.map_singleton]
                  exact hat2
              · exact AllReadyH.nil
        · have hkj : k - j = 0 := by omega
          have hat3 := HLT.out.at_
          rw [hkj] at hat3
          have hge2 : ¬ ((j : Int) < (k : Int)) := by omega
          replace EQ := Lib.hid (show bodyN s = some (⟨blk, E, mt.map (·.t)⟩, s.drop q2) by rw [EQ.out, hat3]; rfl)
          have HR := Lib.hid (show readOf s = if s.length = q2 + 8 ∧ (numOf ((s.drop q2).take 8) : Int) = dgOf (s.take q2) then some ⟨blk, E, mt.map (·.t)⟩ else none by
            unfold readOf
            rw [EQ.out]
            simp only [List.length_drop]
            rw [show s.length - (s.length - q2) = q2 by omega]
            by_cases h8 : s.length = q2 + 8
            · rw [show (s.drop q2).take 8 = s.drop q2 from List.take_of_length_le (by rw [List.length_drop]; omega)]
              by_cases h9 : (numOf (s.drop q2) : Int) = dgOf (s.take q2)
              · rw [if_pos ⟨by omega, h9⟩, if_pos ⟨h8, h9⟩]
              · rw [if_neg (fun h => h9 h.2), if_neg (fun h => h9 h.2)]
            · rw [if_neg (fun h => h8 (by omega)), if_neg (fun h => h8 h.1)])
          have hdc : q2 ≤ dcap := by
            obtain ⟨a, c, hq, h1, h2⟩ := HLT.out.xi.r.bytes.shape
            simp only [Value.slice.injEq] at hq
            omega
          have hdm : dcap ≤ maxLen := by
            obtain ⟨a, c, hq, h1, h2⟩ := HLT.out.xi.r.bytes.shape
            simp only [Value.slice.injEq] at hq
            omega
          have hpart := HLT.out.xi.r.bytes.part 0 q2 dcap (by omega) hqz2 (by omega) hdm
          rw [Nat.sub_zero, Nat.add_zero, List.drop_zero] at hpart
          have HP := Lib.hid hpart
          have p1 := HLT.out.xi.r.own.cell (i := 1) rfl
          have i1 : (q2 : Int) ≤ (dcap : Int) := by omega
          have i2 : (q2 : Int) ≤ (s.length : Int) := by omega
          clear hlt2 hat3 hkj hlen hpart
          go_wp2_with fail
          go_at_call 69; refine (digest_any _ (s.take q2) _ HP.out).mono ?_
          rintro e w' ⟨rfl, rfl⟩
          by_cases a9 : s.length < q2 + 8
          · have HN := Lib.hid (show readOf s = none by rw [HR.out, if_neg (fun h => by omega)])
            go_wp2_with fail
            go_at_call 118; refine (number_bad _ _ db dof dcap s q2 8 _ rfl T u HLT.out.xi.r (by omega) (by omega)).mono ?_
            rintro e w' ⟨rfl, hf⟩
            exact HLT.out.xi.die (hf.mono (fun _ h _ => h.elim)) HN.out _ rfl rfl
          replace a9 : q2 + 8 ≤ s.length := by omega
          have hd8 := num8_lt a9
          obtain ⟨dg, hdg⟩ : ∃ dg, numOf ((s.drop q2).take 8) = dg := ⟨_, rfl⟩
          have HDG := Lib.hid hdg
          rw [hdg] at hd8 HR
          have hcu := u64_i64 dg hd8
          obtain ⟨D, hD⟩ : ∃ D, dgOf (s.take q2) = D := ⟨_, rfl⟩
          rw [hD] at HR ⊢
          clear hdg hD
          go_wp2_with fail
          go_at_call 118; refine (number_ok _ _ db dof dcap s q2 8 _ rfl _ HLT.out.xi.r (by omega) a9).mono ?_
          rintro e w8 ⟨rfl, hr8, hf8⟩
          rw [HDG.out]
          have HX8 := Lib.hid (HLT.out.xi.step hf8 hr8)
          have HV8 := Lib.hid (HLT.out.vec.keep hf8 (fun b hb hs => by have := (HLT.out.vec.lt b hb).1; omega))
          have HT8 := Lib.hid (HLT.out.tg.below hf8 (fun b hb => by subst hb; omega))
          have p2 := HX8.out.r.own.cell (i := 1) rfl
          have x0 := HX8.out.x.cell (i := 0) rfl
          have x1 := HX8.out.x.cell (i := 1) rfl
          have x2 := HX8.out.x.cell (i := 2) rfl
          have f0 := HX8.out.x.free 0 (by simp)
          have f1 := HX8.out.x.free 1 (by simp)
          have f2 := HX8.out.x.free 2 (by simp)
          have y0 := HX8.out.e.cell (i := 0) rfl
          have yf := HX8.out.e.free 0 (by simp)
          clear hr8 hf8 p1
          by_cases c1 : (dg : Int) = D
          · have c1' : ((dg : Int) == D) = true := by rw [beq_iff_eq]; exact c1
            by_cases c2 : s.length = q2 + 8
            · have HN := Lib.hid (show readOf s = some ⟨blk, E, mt.map (·.t)⟩ by rw [HR.out, if_pos ⟨c2, c1⟩])
              have C2 := Lib.hid c2
              have c2' : ((q2 : Int) + 8 == (s.length : Int)) = true := by rw [beq_iff_eq]; omega
              clear c1 c2
              go_wp2_with fail
              go_at_call 116; refine Calls.mono (must_okb _ _ _ ?_) ?_
              · first | rfl | (rw [beq_iff_eq]; have := C2.out; omega)
              rintro e w' ⟨rfl, rfl⟩
              go_wp2_with fail
              have hs0 : Fr (fun k => k = w.heap.size) w8 (((w8.setCell ⟨w.heap.size, 0, none⟩ (.int .i64 blk)).setCell ⟨w.heap.size, 1, none⟩ (.slice ba E.length bc)).setCell ⟨w.heap.size, 2, none⟩ (.slice ta mt.length tc)) :=
                (((Fr.refl (fun k => k = w.heap.size) w8).setCell ⟨w.heap.size, 0, none⟩ (.int .i64 blk) (fun _ => rfl)).setCell ⟨w.heap.size, 1, none⟩ (.slice ba E.length bc) (fun _ => rfl)).setCell ⟨w.heap.size, 2, none⟩ (.slice ta mt.length tc) (fun _ => rfl)
              have hs1 : Fr (fun k => k = w.heap.size ∨ k = w.heap.size + 1) w8 ((((w8.setCell ⟨w.heap.size, 0, none⟩ (.int .i64 blk)).setCell ⟨w.heap.size, 1, none⟩ (.slice ba E.length bc)).setCell ⟨w.heap.size, 2, none⟩ (.slice ta mt.length tc)).setCell ⟨w.heap.size + 1, 0, none⟩ .nilIface) :=
                Fr.setCell (S := fun k => k = w.heap.size ∨ k = w.heap.size + 1) (hs0.mono (fun _ h _ => .inl h)) ⟨w.heap.size + 1, 0, none⟩ .nilIface (fun _ => .inr rfl)
              refine rd_done w _ s ⟨blk, E, mt.map (·.t)⟩ _ rfl rfl (.slice ba E.length bc) (.slice ta mt.length tc) mt ?_ ?_ ?_ HN.out ?_ ?_ rfl
              · exact (((HX8.out.x.set 0 (.int .i64 blk)).set 1 (.slice ba E.length bc)).set 2 (.slice ta mt.length tc)).keep ((Fr.refl (fun k => k = w.heap.size + 1) _).setCell _ _ (fun _ => rfl)) (by omega)
              · exact (HX8.out.e.keep hs0 (by omega)).set 0 .nilIface
              · exact HX8.out.fr.step hs1 (fun k hk hl => by omega)
              · exact (HV8.out.keep hs1 (fun b hb hs => by have := (HV8.out.lt b hb).1; omega)).mono (by omega)
              · exact (HT8.out.below hs1 (fun b hb => by omega)).lift (by omega)
            · have HN := Lib.hid (show readOf s = none by rw [HR.out, if_neg (fun h => c2 h.1)])
              have c2' : ((q2 : Int) + 8 == (s.length : Int)) = false := by rw [beq_eq_false_iff_ne]; omega
              clear c1
              go_wp2_with fail
              go_at_call 116; refine Calls.mono (must_badb _ _ T u HX8.out.r.form _ ?_) ?_
              · first | rfl | (rw [beq_eq_false_iff_ne]; omega)
              rintro e w' ⟨rfl, rfl⟩
              exact HX8.out.die (Fr.refl _ _) HN.out _ rfl rfl
          · have HN := Lib.hid (show readOf s = none by rw [HR.out, if_neg (fun h => c1 h.2)])
            have c1' : ((dg : Int) == D) = false := by rw [beq_eq_false_iff_ne]; exact c1
            clear c1
            go_wp2_with fail
            go_at_call 116; refine Calls.mono (must_badb _ _ T u HX8.out.r.form _ ?_) ?_
            · rfl
            rintro e w' ⟨rfl, rfl⟩
            exact HX8.out.die (Fr.refl _ _) HN.out _ rfl rfl
end Go.Proofs.YtlcdgbhigfgehabGreatDoor
