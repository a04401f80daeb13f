/- Slices of texts that come in as arguments. -/
import Derived.Test.YtlcdgbhigfgehabGreatDoorVec
import Derived.SliceStrings
import Derived.ChangeShapes
namespace Go.Proofs.YtlcdgbhigfgehabGreatDoor
open Go.RowKit Go.ChangeShapes

/-- The slice at a of n texts reads so. -/
structure StrsAt (w : World) (a : Option Addr) (n : Nat) (z : List ByteArray) : Prop where
  len : z.length = n
  at_ : ∀ i (h : i < z.length), ∃ b off, a = some ⟨b, off, none⟩ ∧ w.cell? ⟨b, off + i, none⟩ = some (.string z[i]) ∧ b < w.heap.size
theorem StrsAt.keep {w w1 : World} {a : Option Addr} {n : Nat} {z : List ByteArray} (h : StrsAt w a n z) (k : Fr (fun _ => False) w w1) : StrsAt w1 a n z :=
  ⟨h.len, fun i hi => by
    obtain ⟨b, off, e, hc, hb⟩ := h.at_ i hi
    exact ⟨b, off, e, k.cell hc id, Nat.lt_of_lt_of_le hb k.size⟩⟩
/-- How many letters, and texts, there are. -/
def bulkOf (z : List ByteArray) : Nat := (z.map fun s => s.size + 1).sum
theorem bulkOf_le (z : List ByteArray) : ∀ s ∈ z, s.size + 1 ≤ bulkOf z := by
  intro s hs
  induction z with
  | nil => simp at hs
  | cons a l ih =>
    unfold bulkOf at ih ⊢
    rw [List.map_cons, List.sum_cons]
    rcases List.mem_cons.1 hs with rfl | hs
    · omega
    · have := ih hs; omega
theorem bulkOf_len (z : List ByteArray) : z.length ≤ bulkOf z := by
  induction z with
  | nil => simp [bulkOf]
  | cons a l ih =>
    unfold bulkOf at ih ⊢
    rw [List.map_cons, List.sum_cons, List.length_cons]; omega
theorem strs_open {H : Type} {enc : TypeId × Value → H} {P : Program} {W : World} {t e : TypeId} {a : Option Addr} {len cap : Nat} {x : DataW H × List MemPlace} (ht : P.underlying t = some (.slice e)) (he : P.underlying e = some .string) (hc : P.cellsOf e = 1)
    {fuel : Nat} {sp : Nat → Bool} {held : Bool} (h : DataW.trod enc P W 0 sp held fuel t [.slice a len cap] = some x) : ∃ z, StrsAt W a len z ∧ (∀ s ∈ z, s.size ≤ maxLen) ∧ len ≤ maxLen ∧ (x.1 = .nil ∧ z = [] ∨ ∃ r, x.1 = .slice (strs z) r) := by
  rcases open_strings ht he hc h with ⟨hcs, hx⟩ | ⟨a', len', cap', ss, hcs, -, hl, hm, hz, hx, hcell, hsz⟩
  · simp only [List.cons.injEq, Value.slice.injEq, and_true] at hcs
    obtain ⟨rfl, rfl, rfl⟩ := hcs
    exact ⟨[], ⟨rfl, fun i h => by simp at h⟩, fun s h => by simp at h, by unfold maxLen; omega, .inl ⟨by rw [hx], rfl⟩⟩
  · simp only [List.cons.injEq, Value.slice.injEq, and_true] at hcs
    obtain ⟨rfl, rfl, rfl⟩ := hcs
    have hln : len ≤ ss.length := by rw [hz]; split <;> omega
    refine ⟨ss.take len, ⟨by simp; omega, fun i hi => ?_⟩, fun s hs => hsz s (List.mem_of_mem_take hs), by omega, .inr ⟨_, by rw [hx]⟩⟩
    have hi2 : i < len := by simpa using (Nat.lt_of_lt_of_le hi (List.length_take_le _ _))
    have hi' : i < ss.length := by omega
    have hcl := hcell i hi'
    have hgd : ss.getD i ByteArray.empty = (ss.take len)[i] := by
      rw [List.getD_eq_getElem?_getD, List.getElem?_eq_getElem hi']; simp
    rw [hgd] at hcl
    have hc0 := hcell 0 (by omega)
    obtain ⟨b, off, spot⟩ := a'
    have hspot : spot = none := by
      have := World.cell?_spot hc0
      simpa [Addr.add] using this
    subst hspot
    have hcl2 : W.cell? ⟨b, off + i, none⟩ = some (.string (ss.take len)[i]) := by rw [← addr_add]; exact hcl
    exact ⟨b, off, rfl, hcl2, World.block_lt_of_cell? W _ hcl2⟩
end Go.Proofs.YtlcdgbhigfgehabGreatDoor
