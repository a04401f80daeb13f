/- Diff's steps as the program takes them. No program in sight. -/
import Derived.Test.YtlcdgbhigfgehabGreatDoorDiffPure
import Derived.Test.YtlcdgbhigfgehabGreatDoorSumsPure
namespace Go.Proofs.YtlcdgbhigfgehabGreatDoor

theorem placeOf_take (base : List UInt8) (blk : Nat) (rest : List UInt8) (h : blk ≤ rest.length) : placeOf base blk rest = placeOf base blk (rest.take blk) := by
  unfold placeOf
  rw [if_neg (by omega), if_neg (by simp; omega), List.take_take, Nat.min_self]
theorem seg_snoc (data : List UInt8) (f i : Nat) (hf : f ≤ i) (hi : i < data.length) : (data.drop f).take (i - f) ++ [data[i]] = (data.drop f).take (i + 1 - f) := by
  rw [show i + 1 - f = (i - f) + 1 by omega, List.take_succ_eq_append_getElem (by simp; omega)]
  congr 2
  rw [List.getElem_drop]
  congr 1
  omega
theorem seg_all (data : List UInt8) (f i : Nat) (hf : f ≤ i) (hi : i ≤ data.length) : (data.drop f).take (i - f) ++ data.drop i = (data.drop f).take (data.length - f) := by
  rw [List.take_of_length_le (l := data.drop f) (i := data.length - f) (by simp)]
  have := List.take_append_drop (i - f) (data.drop f)
  rw [List.drop_drop, show f + (i - f) = i by omega] at this
  exact this
/-- Where the program is: at place i, bytes from f on are pending behind the tokens L. -/
def AtI (base data : List UInt8) (blk : Nat) (L : List Tok) (f i : Nat) : Prop := diffOf base data blk = diffF base blk (L ++ chunks ((data.drop f).take (i - f))) (data.drop i)
theorem atI_start (base data : List UInt8) (blk : Nat) : AtI base data blk [] 0 0 := by
  unfold AtI diffOf
  simp [chunks_nil]
theorem atI_none {base data : List UInt8} {blk : Nat} {L : List Tok} {f i : Nat} (h : AtI base data blk L f i) (ho : NoLit L) (hf : f ≤ i) (hi : i < data.length) (hp : placeOf base blk (data.drop i) = none) : AtI base data blk L f (i + 1) := by
  unfold AtI at h ⊢
  rw [h, diffF_none base blk _ data i hi hp, addByte_chunks _ _ _ ho, seg_snoc data f i hf hi]
theorem atI_some {base data : List UInt8} {blk : Nat} {L : List Tok} {f i k : Nat} (h : AtI base data blk L f i) (hb : 0 < blk) (hi : i < data.length) (hp : placeOf base blk (data.drop i) = some k) :
    AtI base data blk (addBlock (L ++ chunks ((data.drop f).take (i - f))) k) (i + blk) (i + blk) := by
  unfold AtI at h ⊢
  rw [h, diffF_some base blk hb _ data i k hi hp, Nat.sub_self, List.take_zero, chunks_nil, List.append_nil]
theorem atI_end {base data : List UInt8} {blk : Nat} {L : List Tok} {f i : Nat} (h : AtI base data blk L f i) (ho : NoLit L) (hf : f ≤ i) (hi : i ≤ data.length) (hs : data.length < i + blk) :
    L ++ chunks ((data.drop f).take (data.length - f)) = diffOf base data blk := by
  unfold AtI at h
  rw [h, diffF_short base blk L ho _ _ (by simp; omega), seg_all data f i hf hi]
theorem chunks_ok (l : List UInt8) : (∀ t ∈ chunks l, Shaped t ∧ t.b = 0) ∧ (chunks l).length ≤ l.length := by
  have key : ∀ (n : Nat) (l : List UInt8), l.length ≤ n → (∀ t ∈ chunks l, Shaped t ∧ t.b = 0) ∧ (chunks l).length ≤ l.length := by
    intro n
    induction n with
    | zero =>
      intro l hl
      obtain rfl : l = [] := List.length_eq_zero_iff.1 (by omega)
      rw [chunks_nil]; simp
    | succ n ih =>
      intro l hl
      by_cases h0 : l = []
      · subst h0; rw [chunks_nil]; simp
      · have hp := List.length_pos_iff.2 h0
        rw [chunks_cons l h0]
        have := ih (l.drop 255) (by simp; omega)
        refine ⟨fun t ht => ?_, ?_⟩
        · rcases List.mem_cons.1 ht with rfl | ht
          · exact ⟨.inl ⟨rfl, rfl, by simp; omega, by simp; omega⟩, rfl⟩
          · exact this.1 t ht
        · have h2 := this.2
          simp at h2 ⊢; omega
  exact key _ l (Nat.le_refl _)
theorem addBlock_b (n : Int) (L : List Tok) (k : Nat) (hk : (k : Int) ≤ n) (h : ∀ t ∈ L, t.b ≤ n) : ∀ t ∈ addBlock L k, t.b ≤ n := by
  intro t ht
  unfold addBlock at ht
  split at ht
  · rename_i t0 h0
    have hm : t0 ∈ L := List.mem_of_getLast? h0
    split at ht
    · rcases List.mem_append.1 ht with ht | ht
      · exact h t (mem_dropLast ht)
      · simp at ht; subst ht; exact h t0 hm
    · rcases List.mem_append.1 ht with ht | ht
      · exact h t ht
      · simp at ht; subst ht; exact hk
  · simp at ht; subst ht; exact hk
theorem addBlock_len (L : List Tok) (k : Nat) : (addBlock L k).length ≤ L.length + 1 := by
  unfold addBlock
  split
  · split
    · simp
      try omega
    · simp
  · simp
/-- What is known of tokens that are gathered. -/
structure Good (L : List Tok) (f : Nat) : Prop where
  nolit : NoLit L
  shaped : ∀ t ∈ L, Shaped t ∧ t.b ≤ 300
  len : L.length ≤ f
theorem Good.start : Good [] 0 := ⟨NoLit.nil, fun _ h => by simp at h, Nat.le_refl _⟩
theorem Good.mid {L : List Tok} {f i : Nat} (h : Good L f) (data : List UInt8) (hf : f ≤ i) : (∀ t ∈ L ++ chunks ((data.drop f).take (i - f)), Shaped t ∧ t.b ≤ 300) ∧ (L ++ chunks ((data.drop f).take (i - f))).length ≤ i := by
  have hc := chunks_ok ((data.drop f).take (i - f))
  refine ⟨fun t ht => ?_, ?_⟩
  · rcases List.mem_append.1 ht with ht | ht
    · exact h.shaped t ht
    · exact ⟨(hc.1 t ht).1, by have := (hc.1 t ht).2; omega⟩
  · have h1 := hc.2
    have h2 := h.len
    simp at h1 ⊢; omega
theorem Good.block {L : List Tok} {f i k blk : Nat} (h : Good L f) (data : List UInt8) (hf : f ≤ i) (hk : k ≤ 300) (hb : 0 < blk) : Good (addBlock (L ++ chunks ((data.drop f).take (i - f))) k) (i + blk) := by
  have hm := h.mid data hf
  refine ⟨noLit_addBlock _ _, fun t ht => ⟨addBlock_shaped _ _ (fun t ht => (hm.1 t ht).1) t ht, addBlock_b 300 _ _ (by omega) (fun t ht => (hm.1 t ht).2) t ht⟩, ?_⟩
  have := addBlock_len (L ++ chunks ((data.drop f).take (i - f))) k
  omega
theorem weak_roll_seg (data : List UInt8) (i blk : Nat) (hb : 0 < blk) (h : i + blk < data.length) :
    rollOf (weakOf ((data.drop i).take blk)) blk (data[i]'(by omega)).toNat (data[i + blk]).toNat = weakOf ((data.drop (i + 1)).take blk) := by
  obtain ⟨m, rfl⟩ : ∃ m, blk = m + 1 := ⟨blk - 1, by omega⟩
  have e1 : (data.drop i).take (m + 1) = data[i] :: (data.drop (i + 1)).take m := by
    rw [List.drop_eq_getElem_cons (by omega), List.take_succ_cons]
  have e2 : (data.drop (i + 1)).take (m + 1) = (data.drop (i + 1)).take m ++ [data[i + (m + 1)]] := by
    rw [List.take_succ_eq_append_getElem (by simp; omega)]
    congr 2
    rw [List.getElem_drop]
    congr 1
    omega
  have hl : ((data.drop (i + 1)).take m).length = m := by simp; omega
  rw [e1, e2, ← weakOf_roll, hl]
end Go.Proofs.YtlcdgbhigfgehabGreatDoor
