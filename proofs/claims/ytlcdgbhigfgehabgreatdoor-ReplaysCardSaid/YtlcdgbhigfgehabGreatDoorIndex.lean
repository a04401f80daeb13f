/- delta.newIndex: the whole blocks of a file by their sums. -/
import Derived.Test.YtlcdgbhigfgehabGreatDoorSign
import Derived.Test.YtlcdgbhigfgehabGreatDoorVMap
import Derived.DeepKeys4
import Derived.WideKeyEntry
namespace Go.Proofs.YtlcdgbhigfgehabGreatDoor
open Go.RowKit Go.Shelf Go.ChangeMaps Go.Maps Go.WideMaps Go.WideElems
attribute [local go_sem] Oper.semAt_some
set_option maxRecDepth 100000

/-! ### keys -/
theorem laidOut : laidOutB Tryz.prog = true := by kernel_rfl
theorem key_law : KeyLaw Tryz.prog 264 := deep_law_laid laidOut (m := 3) (by omega) (by decide +kernel) (by kernel_rfl) (by kernel_rfl)
theorem u32_keyed : Keyed Tryz.prog 92 := int_keyed Tryz.underlying92
/-- A key. -/
def keyV (wk : Nat) (dg : Int) : Value := .agg #[.int .u32 wk, .int .u64 dg]
theorem keyOf_key (wk : Nat) (dg : Int) (h1 : wk < 4294967296) (h2 : 0 ≤ dg) (h3 : dg < 18446744073709551616) : ∃ kl, keyOf Tryz.prog 264 (keyV wk dg) = some kl := by
  have hw : (Lit.int .u32 wk).wf = true := by simp [Lit.wf, IntKind.min, IntKind.max, IntKind.signed, IntKind.bits]; omega
  have hd : (Lit.int .u64 dg).wf = true := by simp [Lit.wf, IntKind.min, IntKind.max, IntKind.signed, IntKind.bits]; omega
  refine ⟨.string (keyBytes [.int .u32 wk, .int .u64 dg]), ?_⟩
  have hkt : Tryz.prog.keyType 264 = true := by kernel_rfl
  have hc : Tryz.prog.cellsOf 264 = 2 := by kernel_rfl
  have hc1 : Tryz.prog.cellsOf 92 = 1 := by kernel_rfl
  have hc2 : Tryz.prog.cellsOf 112 = 1 := by kernel_rfl
  have hsz : ∃ m, Tryz.prog.types.size = m + 1 := ⟨Tryz.prog.types.size - 1, by kernel_rfl⟩
  obtain ⟨m, hm⟩ := hsz
  unfold keyOf
  simp only [Tryz.underlying264]
  rw [if_pos (by simp [hkt, Value.formed, Tryz.underlying264, hc, keyV]), hm]
  unfold Program.keyLits
  simp only [Tryz.underlying264, Value.cells, keyV]
  rw [if_pos (by simp [hc])]
  simp [Program.keyLits, Tryz.underlying92, Tryz.underlying112, hc1, hc2, hw, hd]
theorem keyOf_u32 (wk : Nat) (h1 : wk < 4294967296) : keyOf Tryz.prog 92 (.int .u32 wk) = some (.int .u32 wk) :=
  keyOf_int_mk Tryz.underlying92 (by simp [Lit.wf, IntKind.min, IntKind.max, IntKind.signed, IntKind.bits]; omega)
theorem keyV_inj {wk wk' : Nat} {dg dg' : Int} (h : keyV wk dg = keyV wk' dg') : wk = wk' ∧ dg = dg' := by
  simp [keyV] at h
  exact ⟨by omega, h.2⟩
theorem info_int : (Tryz.prog.info? 3).map (fun i => (i.zero, i.size, i.bytes)) = some (some (.int .i64 0), 1, 8) := by kernel_rfl
theorem elt_int : Elt Tryz.prog 55 3 1 8 := Elt.mk Tryz.underlying55 info_int rfl
theorem zero_ints (w : World) : (zeroValue 55).run Tryz.prog w = .ok (.slice none 0 0) w := by kernel_rfl
theorem zero_int (w : World) : (zeroValue 3).run Tryz.prog w = .ok (.int .i64 0) w := by kernel_rfl
def icells (l : List Nat) : List Value := l.map fun i : Nat => Value.int .i64 (i : Int)
@[simp] theorem length_icells (l : List Nat) : (icells l).length = l.length := by simp [icells]

/-! ### a map of slices of numbers -/
/-- What stands at a key. -/
def atKeyV (f : Value → Option Value) (wk : Nat) (dg : Int) : Value := (f (keyV wk dg)).getD (.slice none 0 0)
/-- Block mb is a map: at each key a slice of these numbers, in a row of its own from block B on; no two in one row. -/
def Groups (w : World) (B mb n : Nat) (L : Nat → Int → List Nat) : Prop :=
  ∃ f, VMap w Tryz.prog 264 mb n f ∧ mb < B ∧ (∀ wk dg, Vec w B 3 1 (atKeyV f wk dg) (L wk dg).length (icells (L wk dg))) ∧
    ∀ wk dg wk' dg', (wk ≠ wk' ∨ dg ≠ dg') → ∀ k, (atKeyV f wk dg).ownBlock = some k → (atKeyV f wk' dg').ownBlock ≠ some k
theorem Groups.made (w : World) (B : Nat) (hB : w.heap.size < B) : Groups (w.alloc (.map #[] 0)) B w.heap.size 0 (fun _ _ => []) :=
  ⟨_, VMap.made w _ _, hB, fun _ _ => (Vec.nil _ _ _ _ : Vec _ _ _ _ (.slice none 0 0) 0 []), fun _ _ _ _ _ k hk => by simp [atKeyV, Value.ownBlock] at hk⟩
theorem Groups.keep {w w1 : World} {B mb n : Nat} {L : Nat → Int → List Nat} {S : Nat → Prop} (h : Groups w B mb n L) (k : Fr S w w1) (hS : ∀ b, S b → b ≠ mb ∧ (b < B ∨ ∃ o : Obj, w.heap[b]? = some o ∧ o.isCells = false)) : Groups w1 B mb n L := by
  obtain ⟨f, h1, h2, h3, h4⟩ := h
  refine ⟨f, h1.keep k (fun hb => (hS mb hb).1 rfl), h2, fun wk dg => (h3 wk dg).keep k (fun b hb hs => ?_), h4⟩
  rcases (hS b hs).2 with h5 | ⟨o, ho, hc⟩
  · have := ((h3 wk dg).lt b hb).1; omega
  · rw [(h3 wk dg).cells hb o ho] at hc; cases hc
theorem Groups.noCells {w : World} {B mb n : Nat} {L : Nat → Int → List Nat} (h : Groups w B mb n L) : ∃ o : Obj, w.heap[mb]? = some o ∧ o.isCells = false := h.choose_spec.1.noCells
theorem Groups.lt {w : World} {B mb n : Nat} {L : Nat → Int → List Nat} (h : Groups w B mb n L) : mb < w.heap.size := h.choose_spec.1.lt
theorem Groups.get {w : World} {B mb n : Nat} {L : Nat → Int → List Nat} (h : Groups w B mb n L) (wk : Nat) (dg : Int) (h1 : wk < 4294967296) (h2 : 0 ≤ dg) (h3 : dg < 18446744073709551616) :
    ∃ v, (Instr.lookup 257 (.map (some mb)) (keyV wk dg) false).run Tryz.prog w = .ok v w ∧ Vec w B 3 1 v (L wk dg).length (icells (L wk dg)) := by
  obtain ⟨f, h4, -, h5, -⟩ := h
  obtain ⟨kl, hk⟩ := keyOf_key wk dg h1 h2 h3
  exact ⟨_, h4.look (Keyed.of_law key_law) Tryz.underlying257 (zero_ints w) hk, h5 wk dg⟩
/-- One number more at a key. -/
def snocAt (L : Nat → Int → List Nat) (wk : Nat) (dg : Int) (i : Nat) : Nat → Int → List Nat := fun a b => if a = wk ∧ b = dg then L a b ++ [i] else L a b
/-- x[k] = append(x[k], ..): the entry is looked up first, and stored back behind the append. -/
theorem Groups.entry {w : World} {B mb n : Nat} {L : Nat → Int → List Nat} (h : Groups w B mb n L) (hn : n < maxLen) (wk : Nat) (dg : Int) (h1 : wk < 4294967296) (h2 : 0 ≤ dg) (h3 : dg < 18446744073709551616) (hB : B ≤ w.heap.size) :
    ∃ v st w1, (Instr.mapEntry 257 (.map (some mb)) (keyV wk dg)).run Tryz.prog w = .ok (.tuple #[v, goInt st]) w1 ∧ Fr (fun k => k = mb) w w1 ∧ w1.heap.size = w.heap.size ∧
      Vec w1 B 3 1 v (L wk dg).length (icells (L wk dg)) ∧ v.ownBlock ≠ some mb ∧
      ∀ w3 v' i, Fr (fun k => v.ownBlock = some k) w1 w3 → Vec w3 B 3 1 v' ((L wk dg).length + 1) (icells (L wk dg) ++ [.int .i64 i]) → (v'.ownBlock = v.ownBlock ∨ ∃ g, v'.ownBlock = some g ∧ w1.heap.size ≤ g) →
        ∃ w4, (Instr.entryStore 257 (.map (some mb)) (goInt st) v').run Tryz.prog w3 = .ok () w4 ∧ Fr (fun k => k = mb) w3 w4 ∧ w4.heap.size = w3.heap.size ∧ Groups w4 B mb (n + 1) (snocAt L wk dg i) := by
  obtain ⟨f, h4, h5, h6, h7⟩ := h
  obtain ⟨kl, hk⟩ := keyOf_key wk dg h1 h2 h3
  have h40 := h4
  obtain ⟨D, ⟨es, clock, hb, F, hs, hD⟩, hat⟩ := h4
  obtain ⟨v0, st, es1, clock1, r1, r2, r3⟩ := WideElems.entry_then_store key_law Tryz.underlying257 zero_ints hb F hk
  have hblt : mb < w.heap.size := (Array.getElem?_eq_some_iff.1 hb).1
  have hfr1 : Fr (fun k => k = mb) w (setBlock w mb (.map es1 clock1)) := ⟨rfl, rfl, rfl, by simp [setBlock], fun i _ hi => heap_setBlock_other hb _ hi⟩
  have hv0 : v0 = atKeyV f wk dg := by
    have hl := h40.look (Keyed.of_law key_law) Tryz.underlying257 (zero_ints w) hk
    rcases Maps.fit_look false (Keyed.of_law key_law) Tryz.underlying257 (zero_ints w) hb F hk with ⟨g1, g2, g3⟩ | ⟨e0, y, g1, g2, g3, g4, g5, g6⟩
    · rw [hl] at g1
      simp only [Bool.false_eq_true, if_false, Result.ok.injEq, and_true] at g1
      rcases r2 with ⟨e1, h8, h9, -⟩ | ⟨-, h9⟩
      · exact absurd h9 (g2 e1 h8)
      · rw [h9]; exact g1.symm
    · rw [hl] at g3
      simp only [Bool.false_eq_true, if_false, Result.ok.injEq, and_true] at g3
      rcases r2 with ⟨e1, h8, h9, h10⟩ | ⟨h9, -⟩
      · have he : e0 = e1 := by
          have hp := Maps.fit_apart (Keyed.of_law key_law) F
          rw [List.pairwise_map, List.pairwise_iff_getElem] at hp
          obtain ⟨i, hi, rfl⟩ := List.getElem_of_mem g1
          obtain ⟨j, hj, rfl⟩ := List.getElem_of_mem h8
          have hkk : ∀ x ∈ es.toList, x.key = keyV wk dg → (rg Tryz.prog 264 asIs x).1 = kl := by
            intro x hx hxk
            obtain ⟨y, hy⟩ := F.reads x hx
            have m1 := rd_key hy
            rw [rg_of hy]
            rw [hxk, hk] at m1
            exact (Option.some.inj m1).symm
          have e1 := hkk _ g1 g2
          have e2 := hkk _ h8 h9
          rcases Nat.lt_trichotomy i j with h | h | h
          · exact absurd (e1.trans e2.symm) (hp i j hi hj h)
          · subst h; rfl
          · exact absurd (e2.trans e1.symm) (hp j i hj hi h)
        rw [h10, ← he]; exact g3.symm
      · exact absurd g2 (h9 e0 g1)
  subst hv0
  refine ⟨_, st, _, r1, hfr1, by simp [setBlock], (h6 wk dg).keep hfr1 (fun b hb' hs => by have := ((h6 wk dg).lt b hb').1; omega), fun hb' => by have := ((h6 wk dg).lt _ hb').1; omega, ?_⟩
  intro w3 v' i hf3 hv3 hloc
  have hb3 : w3.heap[mb]? = some (.map es1 clock1) := by
    rw [hf3.block mb (by simp [setBlock]; exact hblt) (fun hb' => by have := ((h6 wk dg).lt _ hb').1; omega)]
    exact heap_setBlock_same hb _
  obtain ⟨es', clock', s1, s2⟩ := r3 w3 v' hb3
  obtain ⟨w', t1, t2, t3⟩ := h40.put (Keyed.of_law key_law) Tryz.underlying257 hn hk v'
  rw [s2] at t1
  cases t1
  have hfr4 : Fr (fun k => k = mb) w3 (setBlock w3 mb (.map es' clock')) := ⟨rfl, rfl, rfl, by simp [setBlock], fun i _ hi => heap_setBlock_other hb3 _ hi⟩
  have hsz3 : w.heap.size ≤ w3.heap.size := by have := hf3.size; simp [setBlock] at this; exact this
  have hput : ∀ a b, atKeyV (putAt f (keyV wk dg) v') a b = if a = wk ∧ b = dg then v' else atKeyV f a b := by
    intro a b
    by_cases hab : a = wk ∧ b = dg
    · obtain ⟨rfl, rfl⟩ := hab
      simp [atKeyV, putAt_same]
    · rw [if_neg hab]
      unfold atKeyV
      rw [putAt_other _ _ (fun e => hab (keyV_inj e))]
  have hold : ∀ a b, ¬ (a = wk ∧ b = dg) → Vec (setBlock w3 mb (.map es' clock')) B 3 1 (atKeyV f a b) (L a b).length (icells (L a b)) := by
    intro a b hab
    have hne : ∀ k, (atKeyV f a b).ownBlock = some k → (atKeyV f wk dg).ownBlock ≠ some k := h7 a b wk dg (by
      by_cases ha : a = wk
      · exact .inr (fun hb => hab ⟨ha, hb⟩)
      · exact .inl ha)
    exact (((h6 a b).keep hfr1 (fun k hk hs => by have := ((h6 a b).lt k hk).1; omega)).keep hf3 (fun k hk hs => hne k hk hs)).keep hfr4 (fun k hk hs => by have := ((h6 a b).lt k hk).1; omega)
  refine ⟨_, s1, hfr4, by simp [setBlock], putAt f (keyV wk dg) v', ?_, h5, ?_, ?_⟩
  · obtain ⟨D', ⟨es2, clock2, u1, u2⟩, u3⟩ := t2
    rw [heap_setBlock_same hb] at u1
    cases u1
    exact ⟨D', ⟨es', clock', heap_setBlock_same hb3 _, u2⟩, u3⟩
  · intro a b
    rw [hput]
    by_cases hab : a = wk ∧ b = dg
    · obtain ⟨rfl, rfl⟩ := hab
      simp only [snocAt, and_self, if_true, List.length_append, List.length_cons, List.length_nil]
      have := hv3.keep hfr4 (fun k hk hs => by have := (hv3.lt k hk).1; omega)
      simpa [icells] using this
    · rw [if_neg hab]
      simp only [snocAt, if_neg hab]
      exact hold a b hab
  · intro a b a' b' hne k
    rw [hput, hput]
    have hv'k : ∀ a b k, ¬ (a = wk ∧ b = dg) → (atKeyV f a b).ownBlock = some k → v'.ownBlock ≠ some k := by
      intro a b k hab hk hk'
      rcases hloc with h8 | ⟨g, h8, h9⟩
      · refine h7 a b wk dg ?_ k hk (h8 ▸ hk')
        by_cases ha : a = wk
        · exact .inr (fun hb => hab ⟨ha, hb⟩)
        · exact .inl ha
      · rw [h8] at hk'
        cases hk'
        have := ((h6 a b).lt k hk).2
        simp [setBlock] at h9
        omega
    by_cases hab : a = wk ∧ b = dg
    · rw [if_pos hab]
      have hab' : ¬ (a' = wk ∧ b' = dg) := by
        rintro ⟨rfl, rfl⟩
        rcases hne with h | h
        · exact h hab.1
        · exact h hab.2
      rw [if_neg hab']
      intro hk hk'
      exact hv'k a' b' k hab' hk' hk
    · rw [if_neg hab]
      by_cases hab' : a' = wk ∧ b' = dg
      · rw [if_pos hab']
        intro hk hk'
        exact hv'k a b k hab hk hk'
      · rw [if_neg hab']
        exact h7 a b a' b' hne k
end Go.Proofs.YtlcdgbhigfgehabGreatDoor
