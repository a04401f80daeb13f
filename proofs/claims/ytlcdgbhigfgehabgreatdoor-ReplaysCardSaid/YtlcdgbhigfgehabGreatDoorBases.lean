/- The map of a tree's data by names. -/
import Derived.Test.YtlcdgbhigfgehabGreatDoorStrMap
import Derived.Test.YtlcdgbhigfgehabGreatDoorFilMem
namespace Go.Proofs.YtlcdgbhigfgehabGreatDoor
open Go.RowKit Go.Maps
set_option maxRecDepth 100000

/-- The data of the last file of a name, as it lies there. -/
def lastV (l : List (Fil × Value)) (n : List UInt8) : Option Value := l.foldl (fun o p => if p.1.name = n then some p.2 else o) none
theorem lastV_snoc (l : List (Fil × Value)) (p : Fil × Value) (n : List UInt8) : lastV (l ++ [p]) n = if p.1.name = n then some p.2 else lastV l n := by simp [lastV]
theorem lastV_isB {w : World} {l : List (Fil × Value)} (h : ∀ p ∈ l, IsB w p.2 p.1.data) (n : List UInt8) : IsB w ((lastV l n).getD (.slice none 0 0)) ((lastOf (l.map (·.1)) n).getD []) := by
  have key : ∀ (l : List (Fil × Value)) (o : Option Value) (o' : Option (List UInt8)), (∀ p ∈ l, IsB w p.2 p.1.data) → IsB w (o.getD (.slice none 0 0)) (o'.getD []) →
      IsB w ((l.foldl (fun o p => if p.1.name = n then some p.2 else o) o).getD (.slice none 0 0)) (((l.map (·.1)).foldl (fun o f => if f.name = n then some f.data else o) o').getD []) := by
    intro l
    induction l with
    | nil => intro o o' _ h; exact h
    | cons p l ih =>
      intro o o' h1 h2
      simp only [List.foldl_cons, List.map_cons]
      refine ih _ _ (fun q hq => h1 q (by simp [hq])) ?_
      split
      · exact h1 p (by simp)
      · exact h2
  exact key l none none h (.inl ⟨rfl, rfl⟩)
theorem zero_bytes (w : World) : (zeroValue 25).run Tryz.prog w = .ok (.slice none 0 0) w := by kernel_rfl
def Bases (w : World) (mb n : Nat) (l : List (Fil × Value)) : Prop := ∃ f, VMap w Tryz.prog 9 mb n f ∧ ∀ nm : List UInt8, f (.string ⟨nm.toArray⟩) = lastV l nm
theorem Bases.made (w : World) : Bases (w.alloc (.map #[] 0)) w.heap.size 0 [] := ⟨_, VMap.made w _ _, fun _ => rfl⟩
theorem Bases.keep {w w1 : World} {S : Nat → Prop} {mb n : Nat} {l : List (Fil × Value)} (h : Bases w mb n l) (k : Fr S w w1) (hb : ¬ S mb) : Bases w1 mb n l := by
  obtain ⟨f, h1, h2⟩ := h
  exact ⟨f, h1.keep k hb, h2⟩
theorem Bases.apart {w : World} {mb n : Nat} {l : List (Fil × Value)} (h : Bases w mb n l) {B sz m : Nat} {T : TypeId} {v : Value} {xs : List Value} (hv : Vec w B T sz v m xs) : v.ownBlock ≠ some mb := by
  obtain ⟨f, h1, _⟩ := h
  rcases hv.2 with ⟨rfl, -⟩ | ⟨g, cap, rest, rfl, -, ho, -⟩
  · simp [Value.ownBlock]
  · have := h1.apart ho
    simpa [Value.ownBlock] using this
theorem Bases.look {w : World} {mb n : Nat} {l : List (Fil × Value)} (h : Bases w mb n l) (nm : ByteArray) (hl : nm.size ≤ 1000) :
    (Instr.lookup 150 (.map (some mb)) (.string nm) false).run Tryz.prog w = .ok ((lastV l nm.data.toList).getD (.slice none 0 0)) w := by
  obtain ⟨f, h1, h2⟩ := h
  obtain ⟨kl, hk⟩ := keyOf_name nm.data.toList (by simpa using hl)
  have := h1.look str_keyed Tryz.underlying150 (zero_bytes w) hk
  rw [h2] at this
  rwa [ba_eq] at this
theorem Bases.put {w : World} {mb n : Nat} {l : List (Fil × Value)} (h : Bases w mb n l) (hn : n < maxLen) (nm : ByteArray) (d : List UInt8) (dv : Value) (hl : nm.size ≤ 1000) :
    ∃ w', (Instr.mapUpdate 150 (.map (some mb)) (.string nm) dv).run Tryz.prog w = .ok () w' ∧ Bases w' mb (n + 1) (l ++ [(⟨nm.data.toList, d⟩, dv)]) ∧ Fr (fun k => k = mb) w w' := by
  obtain ⟨f, h1, h2⟩ := h
  obtain ⟨kl, hk⟩ := keyOf_name nm.data.toList (by simpa using hl)
  rw [ba_eq] at hk
  obtain ⟨w', r1, r2, r3⟩ := h1.put str_keyed Tryz.underlying150 hn hk dv
  refine ⟨w', r1, ⟨_, r2, fun n2 => ?_⟩, r3⟩
  rw [lastV_snoc]
  by_cases hx : nm.data.toList = n2
  · rw [if_pos hx]
    subst hx
    rw [ba_eq, putAt_same]
  · rw [if_neg hx, putAt_other _ _ (fun he => hx ?_)]
    · exact h2 n2
    · simp only [Value.string.injEq] at he
      rw [← he]
end Go.Proofs.YtlcdgbhigfgehabGreatDoor
