/- A batch in memory: entries, targets; the closure that recovers in Read. -/
import Derived.Test.YtlcdgbhigfgehabGreatDoorRTokens
import Derived.Test.YtlcdgbhigfgehabGreatDoorVMap
import Derived.Recover
import Derived.Defers
namespace Go.Proofs.YtlcdgbhigfgehabGreatDoor
open Go.RowKit Go.Maps
set_option maxRecDepth 100000

theorem info_ent : (Tryz.prog.info? 152).map (fun i => (i.zero, i.size, i.bytes)) = some (some (.agg #[.string ⟨#[]⟩, .int .i64 0, .int .u64 0]), 3, 32) := by kernel_rfl
theorem elt_ent : Elt Tryz.prog 143 152 3 32 := Elt.mk Tryz.underlying143 info_ent rfl
theorem info_targ : (Tryz.prog.info? 155).map (fun i => (i.zero, i.size, i.bytes)) = some (some (.agg #[.string ⟨#[]⟩, .int .i64 0, .int .u64 0, .slice none 0 0]), 4, 56) := by kernel_rfl
theorem elt_targ : Elt Tryz.prog 144 155 4 56 := Elt.mk Tryz.underlying144 info_targ rfl

def entRow (e : Ent) : List Value := [.string ⟨e.name.toArray⟩, .int .i64 e.size, .int .u64 e.dig]
def entCells (l : List Ent) : List Value := l.flatMap entRow
theorem entCells_snoc (l : List Ent) (e : Ent) : entCells (l ++ [e]) = entCells l ++ entRow e := by simp [entCells]
@[simp] theorem length_entCells (l : List Ent) : (entCells l).length = l.length * 3 := by
  induction l with
  | nil => rfl
  | cons e l ih => simp [entCells, entRow] at ih ⊢; omega
theorem entCells_get (l : List Ent) (i : Nat) (h : i < l.length) :
    (entCells l)[i * 3]? = some (.string ⟨l[i].name.toArray⟩) ∧ (entCells l)[i * 3 + 1]? = some (.int .i64 l[i].size) ∧ (entCells l)[i * 3 + 2]? = some (.int .u64 l[i].dig) := by
  induction l generalizing i with
  | nil => simp at h
  | cons p l ih =>
    have hc : entCells (p :: l) = .string ⟨p.name.toArray⟩ :: .int .i64 p.size :: .int .u64 p.dig :: entCells l := rfl
    rw [hc]
    cases i with
    | zero => simp
    | succ i =>
      have := ih i (by simpa using h)
      simp only [Nat.add_mul, Nat.one_mul, List.getElem_cons_succ]
      refine ⟨?_, ?_, ?_⟩
      · rw [show i * 3 + 3 = (i * 3) + 1 + 1 + 1 from rfl]; simpa using this.1
      · rw [show i * 3 + 3 + 1 = (i * 3 + 1) + 1 + 1 + 1 from by omega]; simpa using this.2.1
      · rw [show i * 3 + 3 + 2 = (i * 3 + 2) + 1 + 1 + 1 from by omega]; simpa using this.2.2
/-- A target in memory: what it says, its slice of tokens, these. -/
structure MT where
  t : Targ
  v : Value
  l : List (Tok × Value)
def targRow (x : MT) : List Value := [.string ⟨x.t.ent.name.toArray⟩, .int .i64 x.t.ent.size, .int .u64 x.t.ent.dig, x.v]
def targCells (l : List MT) : List Value := l.flatMap targRow
theorem targCells_snoc (l : List MT) (e : MT) : targCells (l ++ [e]) = targCells l ++ targRow e := by simp [targCells]
@[simp] theorem length_targCells (l : List MT) : (targCells l).length = l.length * 4 := by
  induction l with
  | nil => rfl
  | cons e l ih => simp [targCells, targRow] at ih ⊢; omega
theorem targCells_get (l : List MT) (i : Nat) (h : i < l.length) :
    (targCells l)[i * 4]? = some (.string ⟨l[i].t.ent.name.toArray⟩) ∧ (targCells l)[i * 4 + 1]? = some (.int .i64 l[i].t.ent.size) ∧ (targCells l)[i * 4 + 2]? = some (.int .u64 l[i].t.ent.dig) ∧ (targCells l)[i * 4 + 3]? = some l[i].v := by
  induction l generalizing i with
  | nil => simp at h
  | cons p l ih =>
    have hc : targCells (p :: l) = .string ⟨p.t.ent.name.toArray⟩ :: .int .i64 p.t.ent.size :: .int .u64 p.t.ent.dig :: p.v :: targCells l := rfl
    rw [hc]
    cases i with
    | zero => simp
    | succ i =>
      have := ih i (by simpa using h)
      simp only [Nat.add_mul, Nat.one_mul, List.getElem_cons_succ]
      refine ⟨?_, ?_, ?_, ?_⟩
      · rw [show i * 4 + 4 = (i * 4) + 1 + 1 + 1 + 1 from rfl]; simpa using this.1
      · rw [show i * 4 + 4 + 1 = (i * 4 + 1) + 1 + 1 + 1 + 1 from by omega]; simpa using this.2.1
      · rw [show i * 4 + 4 + 2 = (i * 4 + 2) + 1 + 1 + 1 + 1 from by omega]; simpa using this.2.2.1
      · rw [show i * 4 + 4 + 3 = (i * 4 + 3) + 1 + 1 + 1 + 1 from by omega]; simpa using this.2.2.2
/-- v is a slice of these targets; all lies in blocks from B on, and no two tokens' data are one. -/
structure Targs (w : World) (B : Nat) (v : Value) (l : List MT) : Prop where
  vec : Vec w B 155 4 v l.length (targCells l)
  toks : ∀ x ∈ l, OToks w B x.v x.l ∧ x.l.map (·.1) = x.t.toks
  two : (l.flatMap (·.l)).Pairwise fun p q => ∀ k, p.2.ownBlock = some k → q.2.ownBlock ≠ some k
theorem Targs.nil (w : World) (B : Nat) : Targs w B (.slice none 0 0) [] := ⟨Vec.nil _ _ _ _, fun _ h => by simp at h, List.Pairwise.nil⟩
theorem Targs.below {w w1 : World} {S : Nat → Prop} {B : Nat} {v : Value} {l : List MT} (h : Targs w B v l) (k : Fr S w w1) (hS : ∀ b, S b → b < B) : Targs w1 B v l :=
  ⟨h.vec.keep k (fun b hb hs => by have := (h.vec.lt b hb).1; have := hS b hs; omega), fun x hx => ⟨(h.toks x hx).1.below k hS, (h.toks x hx).2⟩, h.two⟩
theorem Targs.lift {w : World} {B B' : Nat} {v : Value} {l : List MT} (h : Targs w B v l) (hB : B' ≤ B) : Targs w B' v l :=
  ⟨h.vec.mono hB, fun x hx => ⟨(h.toks x hx).1.lift hB, (h.toks x hx).2⟩, h.two⟩
/-- One more. -/
theorem Targs.snoc {w W w1 : World} {B : Nat} {v v' : Value} {l : List MT} {x : MT} (h : Targs w B v l) (k0 : Fr (fun b => b < B) w W) (hx : OToks W w.heap.size x.v x.l) (hxt : x.l.map (·.1) = x.t.toks) (hB : B ≤ w.heap.size)
    (hv : Vec w1 B 155 4 v' (l.length + 1) (targCells l ++ targRow x)) (k : Fr (fun b => v.ownBlock = some b) W w1) : Targs w1 B v' (l ++ [x]) := by
  have h2 := h.below k0 (fun b hb => hb)
  have hrow : ∀ b, v.ownBlock = some b → b < w.heap.size := fun b hb => (h.vec.lt b hb).2
  refine ⟨by rw [List.length_append, targCells_snoc]; exact hv, ?_, ?_⟩
  · intro y hy
    rcases List.mem_append.1 hy with hy | hy
    · have hy2 := (h2.toks y hy).1
      refine ⟨hy2.keep k (fun b hb hs => ?_) (fun p hp b hb hs => ?_), (h2.toks y hy).2⟩
      · rcases h2.vec.2 with ⟨hq, -⟩ | ⟨g, cap, rest, hq, -, ho, -⟩
        · rw [hq] at hs; simp [Value.ownBlock] at hs
        · rw [hq] at hs
          have e : g = b := by simpa [Value.ownBlock] using hs
          subst e
          exact hy2.vec.apartT ho (by decide) hb
      · rcases h2.vec.2 with ⟨hq, -⟩ | ⟨g, cap, rest, hq, -, ho, -⟩
        · rw [hq] at hs; simp [Value.ownBlock] at hs
        · rw [hq] at hs
          have e : g = b := by simpa [Value.ownBlock] using hs
          subst e
          exact (hy2.data p hp).apartT ho (by decide) hb
    · simp at hy; subst hy
      refine ⟨(hx.keep k (fun b hb hs => ?_) (fun p hp b hb hs => ?_)).lift hB, hxt⟩
      · have h3 := (hx.vec.lt b hb).1
        have h4 := hrow b hs
        omega
      · have h3 := (hx.lt p hp b hb).1
        have h4 := hrow b hs
        omega
  · rw [List.flatMap_append, List.pairwise_append]
    refine ⟨h.two, by simpa using hx.two, ?_⟩
    intro p hp q hq b hb hb2
    obtain ⟨y, hy, hpy⟩ := List.mem_flatMap.1 hp
    have h3 := ((h.toks y hy).1.lt p hpy b hb).2
    have hq' : q ∈ x.l := by simpa using hq
    have h4 := (hx.lt q hq' b hb2).1
    omega

/-! ### The closure that recovers -/
theorem rcatch_idle (p q : Addr) (w : World) :
    CallsD Tryz.prog 115 #[.pointer (some p), .pointer (some q)] .returning w fun e u' w' => e = .returned (.tuple #[]) ∧ u' = .returning ∧ w' = w := by
  refine callsD_of_wpS Tryz.func115 rfl fun c₀ cs hu => ?_
  apply wpS_seq
  apply wpS_region
  simp [wpOpsS, go_sem, recoverD, hu, Tryz.ntmps115, Exit.thenS]
  apply wpS_seq
  apply wpS_region
  simp [wpOpsS, go_sem, Exit.thenS]
  refine wpS_cond (t := false) (by simp [Act.eval, Array.replicate]) ?_
  simp only [Bool.false_eq_true, if_false]
  refine wpS_of_wp (wp_skip ?_)
  cases c₀
  simp_all [bodyPostS, results, Tryz.results115]
set_option maxHeartbeats 1000000 in
theorem rcatch_panicking (g h : Nat) (T : TypeId) (u : Value) (w : World) (b0 b1 b2 e0 : Value) (hb : Own w g 146 [b0, b1, b2]) (he : Own w h 60 [e0]) (hne : g ≠ h) :
    CallsD Tryz.prog 115 #[.pointer (some ⟨g, 0, none⟩), .pointer (some ⟨h, 0, none⟩)] (.panicking [{ v := .iface T u, recovered := false }]) w fun e u' w' =>
      e = .returned (.tuple #[]) ∧ u' = .panicking [{ v := .iface T u, recovered := true }] ∧ Own w' g 146 [.int .i64 0, .slice none 0 0, .slice none 0 0] ∧ Own w' h 60 [(.iface 30 (.int .i64 5))] ∧ Fr (fun k => k = g ∨ k = h) w w' := by
  have x0 := hb.cell (i := 0) rfl
  have x1 := hb.cell (i := 1) rfl
  have x2 := hb.cell (i := 2) rfl
  have f0 := hb.free 0 (by simp)
  have f1 := hb.free 1 (by simp)
  have f2 := hb.free 2 (by simp)
  have y0 := he.cell (i := 0) rfl
  have yf := he.free 0 (by simp)
  have hne' : ¬ h = g := fun e => hne e.symm
  have hfin : Own ((((w.setCell ⟨g, 0, none⟩ (.int .i64 0)).setCell ⟨g, 1, none⟩ (.slice none 0 0)).setCell ⟨g, 2, none⟩ (.slice none 0 0)).setCell ⟨h, 0, none⟩ (.iface 30 (.int .i64 5))) g 146 [.int .i64 0, .slice none 0 0, .slice none 0 0] ∧
      Own ((((w.setCell ⟨g, 0, none⟩ (.int .i64 0)).setCell ⟨g, 1, none⟩ (.slice none 0 0)).setCell ⟨g, 2, none⟩ (.slice none 0 0)).setCell ⟨h, 0, none⟩ (.iface 30 (.int .i64 5))) h 60 [(.iface 30 (.int .i64 5))] ∧
      Fr (fun k => k = g ∨ k = h) w ((((w.setCell ⟨g, 0, none⟩ (.int .i64 0)).setCell ⟨g, 1, none⟩ (.slice none 0 0)).setCell ⟨g, 2, none⟩ (.slice none 0 0)).setCell ⟨h, 0, none⟩ (.iface 30 (.int .i64 5))) := by
    refine ⟨?_, ?_, ?_⟩
    · exact (((hb.set 0 (.int .i64 0)).set 1 (.slice none 0 0)).set 2 (.slice none 0 0)).keep ((Fr.refl (fun k => k = h) _).setCell _ _ (fun _ => rfl)) hne
    · exact (he.keep ((((Fr.refl (fun k => k = g) w).setCell ⟨g, 0, none⟩ (.int .i64 0) (fun _ => rfl)).setCell ⟨g, 1, none⟩ (.slice none 0 0) (fun _ => rfl)).setCell ⟨g, 2, none⟩ (.slice none 0 0) (fun _ => rfl)) hne').set 0 (.iface 30 (.int .i64 5))
    · exact ((((Fr.refl _ w).setCell _ _ (fun _ => .inl rfl)).setCell _ _ (fun _ => .inl rfl)).setCell _ _ (fun _ => .inl rfl)).setCell _ _ (fun _ => .inr rfl)
  have HFIN := Lib.hid hfin
  clear hfin hb he
  refine callsD_of_wpS Tryz.func115 rfl fun c₀ cs hu => ?_
  apply wpS_seq
  apply wpS_region
  simp [wpOpsS, go_sem, recoverD, hu, Tryz.ntmps115, Exit.thenS]
  apply wpS_seq
  apply wpS_region
  simp [wpOpsS, go_sem, Exit.thenS]
  refine wpS_cond (t := true) (by simp [Act.eval, Array.replicate]) ?_
  simp only [if_true]
  apply wpS_region
  simp [wpOpsS, go_sem, x0, x1, x2, f0, f1, f2, y0, yf, hne', bodyPostS, results, Tryz.results115]
  exact HFIN.out
end Go.Proofs.YtlcdgbhigfgehabGreatDoor
