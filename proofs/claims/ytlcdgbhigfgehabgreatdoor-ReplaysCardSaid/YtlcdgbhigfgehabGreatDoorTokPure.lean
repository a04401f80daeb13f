/- Plain facts on tokens and blocks, no program in sight: what Apply makes of tokens. -/
import Derived.Below
import Derived.IntWalk
namespace Go.Proofs.YtlcdgbhigfgehabGreatDoor

open Go.RowKit in
theorem w64_byte (a : UInt8) : wrap64 (a.toNat : Int) = a.toNat := IntWalk.wrap64_in _ (by have := a.toNat_lt; omega)
open Go.RowKit in
theorem w64_256 (a : UInt8) : wrap64 (256 * (a.toNat : Int)) = 256 * (a.toNat : Int) := IntWalk.wrap64_in _ (by have := a.toNat_lt; omega)
open Go.RowKit in
theorem w64_ab (a b : UInt8) : wrap64 (256 * (a.toNat : Int) + b.toNat) = 256 * (a.toNat : Int) + b.toNat := IntWalk.wrap64_in _ (by have := a.toNat_lt; have := b.toNat_lt; omega)
open Go.RowKit in
theorem w64_ab2 (a b : UInt8) : wrap64 (256 * (a.toNat : Int) + b.toNat - 2) = 256 * (a.toNat : Int) + b.toNat - 2 := IntWalk.wrap64_in _ (by have := a.toNat_lt; have := b.toNat_lt; omega)
open Go.RowKit in
theorem w64_c1 (a : UInt8) : wrap64 ((a.toNat : Int) - 1) = (a.toNat : Int) - 1 := IntWalk.wrap64_in _ (by have := a.toNat_lt; omega)
/-- A token: from which block on, how many, or data as it stands. -/
structure Tok where
  b : Int
  c : Int
  d : List UInt8

/-- How many blocks so many bytes have. -/
def nBlocks (n blk : Nat) : Nat := (n + blk - 1) / blk
def tokOk (nb : Nat) (t : Tok) : Bool := decide (0 ≤ t.c) && decide (0 ≤ t.b) && (decide (t.c = 0) && decide (t.b = 0) || decide (0 < t.c) && t.d.isEmpty && decide (t.b + t.c ≤ nb))
def tokMake (base : List UInt8) (blk : Nat) (t : Tok) : List UInt8 := if t.c = 0 then t.d else (base.drop (t.b.toNat * blk)).take (t.c.toNat * blk)
/-- What tokens make, behind out; or the kind of the first error. -/
def applyF (base : List UInt8) (blk : Nat) : List Tok → List UInt8 → Int ⊕ List UInt8
  | [], out => .inr out
  | t :: ts, out => if tokOk (nBlocks base.length blk) t then (if 300 < (out ++ tokMake base blk t).length then .inl 2 else applyF base blk ts (out ++ tokMake base blk t)) else .inl 3
/-- The errors of a block's size and of data. -/
def sized (block : Int) (n : Nat) : Int := if block < 1 ∨ 64 < block then 1 else if 300 < n then 2 else 0
def applyK (base : List UInt8) (block : Int) (ts : List Tok) : Int ⊕ List UInt8 := if sized block base.length = 0 then applyF base block.toNat ts [] else .inl (sized block base.length)

/-- A file's blocks. -/
def blocksOf (l : List UInt8) (blk : Nat) : List (List UInt8) := (List.range (nBlocks l.length blk)).map fun i => (l.drop (i * blk)).take blk

theorem applyF_append (base : List UInt8) (blk : Nat) (xs ys : List Tok) : ∀ out, applyF base blk (xs ++ ys) out = match applyF base blk xs out with | .inl e => .inl e | .inr o => applyF base blk ys o := by
  induction xs with
  | nil => intro out; rfl
  | cons t ts ih =>
    intro out
    simp only [List.cons_append, applyF]
    split
    · split
      · rfl
      · exact ih _
    · rfl
theorem take_succ_get {α : Type} (l : List α) (k : Nat) (h : k < l.length) : l.take (k + 1) = l.take k ++ [l[k]] := List.take_succ_eq_append_getElem h
/-- The step of Apply's loop. -/
theorem applyF_take (base : List UInt8) (blk : Nat) (ts : List Tok) (k : Nat) (h : k < ts.length) (out : List UInt8) (h0 : applyF base blk (ts.take k) [] = .inr out) :
    applyF base blk (ts.take (k + 1)) [] = (if tokOk (nBlocks base.length blk) ts[k] then (if 300 < (out ++ tokMake base blk ts[k]).length then .inl 2 else .inr (out ++ tokMake base blk ts[k])) else .inl 3) := by
  rw [take_succ_get _ _ h, applyF_append, h0]
  simp [applyF]
/-- An error stays the whole's. -/
theorem applyF_stop (base : List UInt8) (blk : Nat) (ts : List Tok) (k : Nat) (e : Int) (h0 : applyF base blk (ts.take k) [] = .inl e) : applyF base blk ts [] = .inl e := by
  have := applyF_append base blk (ts.take k) (ts.drop k) []
  rw [List.take_append_drop, h0] at this
  exact this
theorem applyF_err (base : List UInt8) (blk : Nat) : ∀ (ts : List Tok) (out : List UInt8) (e : Int), applyF base blk ts out = .inl e → e = 2 ∨ e = 3 := by
  intro ts
  induction ts with
  | nil => intro out e h; simp [applyF] at h
  | cons t ts ih =>
    intro out e h
    simp only [applyF] at h
    split at h
    · split at h
      · left; cases h; rfl
      · exact ih _ _ h
    · right; cases h; rfl
theorem applyF_len (base : List UInt8) (blk : Nat) : ∀ (ts : List Tok) (out r : List UInt8), out.length ≤ 300 → applyF base blk ts out = .inr r → r.length ≤ 300 := by
  intro ts
  induction ts with
  | nil => intro out r h h1; simp [applyF] at h1; subst h1; exact h
  | cons t ts ih =>
    intro out r h h1
    simp only [applyF] at h1
    split at h1
    · split at h1
      · cases h1
      · exact ih _ _ (by omega) h1
    · cases h1
theorem tokMake_len (base : List UInt8) (blk : Nat) (t : Tok) : (tokMake base blk t).length ≤ max t.d.length base.length := by
  unfold tokMake
  split
  · omega
  · simp; omega
theorem nBlocks_mul (n blk : Nat) (hb : 0 < blk) : n ≤ nBlocks n blk * blk ∧ (0 < n → (nBlocks n blk - 1) * blk < n) ∧ nBlocks n blk ≤ n := by
  unfold nBlocks
  have h1 := Nat.div_add_mod (n + blk - 1) blk
  have h2 := Nat.mod_lt (n + blk - 1) hb
  rw [Nat.mul_comm] at h1
  refine ⟨by omega, fun hn => ?_, ?_⟩
  · rw [Nat.sub_mul]; omega
  · rcases Nat.eq_zero_or_pos n with rfl | hn
    · rw [Nat.div_eq_of_lt (by omega)]; omega
    · rw [Nat.div_le_iff_le_mul hb]
      have : n ≤ n * blk := Nat.le_mul_of_pos_right _ hb
      omega
theorem lt_nBlocks (n blk i : Nat) (hb : 0 < blk) : i < nBlocks n blk ↔ i * blk < n := by
  have h := nBlocks_mul n blk hb
  constructor
  · intro hi
    have hn : 0 < n := by
      rcases Nat.eq_zero_or_pos n with rfl | hn
      · simp [nBlocks, Nat.div_eq_of_lt (show blk - 1 < blk by omega)] at hi
      · exact hn
    have : i * blk ≤ (nBlocks n blk - 1) * blk := Nat.mul_le_mul_right _ (by omega)
    have := h.2.1 hn
    omega
  · intro hi
    rcases Nat.lt_or_ge i (nBlocks n blk) with h1 | h1
    · exact h1
    · have : nBlocks n blk * blk ≤ i * blk := Nat.mul_le_mul_right _ h1
      omega
theorem length_blocksOf (l : List UInt8) (blk : Nat) : (blocksOf l blk).length = nBlocks l.length blk := by simp [blocksOf]
theorem blocksOf_get (l : List UInt8) (blk i : Nat) (h : i < nBlocks l.length blk) : (blocksOf l blk)[i]'(by simpa [blocksOf] using h) = (l.drop (i * blk)).take blk := by simp [blocksOf]
/-- The bytes that a token of blocks makes, block by block. -/
theorem make_succ (base : List UInt8) (blk b j : Nat) : (base.drop (b * blk)).take (j * blk) ++ (base.drop ((b + j) * blk)).take blk = (base.drop (b * blk)).take ((j + 1) * blk) := by
  rw [Nat.add_mul j 1 blk, Nat.one_mul, List.take_add, List.drop_drop, Nat.add_mul b j blk]
/-- base[b*blk : min((b+c)*blk, len)] -/
theorem make_slice (base : List UInt8) (blk : Nat) (t : Tok) (hc : 0 < t.c) :
    tokMake base blk t = (base.drop (t.b.toNat * blk)).take (min ((t.b.toNat + t.c.toNat) * blk) base.length - t.b.toNat * blk) := by
  unfold tokMake
  rw [if_neg (by omega)]
  apply List.ext_getElem?
  intro i
  simp only [List.getElem?_take, List.getElem?_drop]
  have h : (t.b.toNat + t.c.toNat) * blk = t.b.toNat * blk + t.c.toNat * blk := Nat.add_mul _ _ _
  by_cases h1 : t.b.toNat * blk + i < base.length
  · by_cases h2 : i < t.c.toNat * blk
    · rw [if_pos h2, if_pos (by omega)]
    · rw [if_neg h2, if_neg (by omega)]
  · rw [List.getElem?_eq_none (by omega)]
    simp

/-- The tokens that a text says. -/
def tokList (l : List UInt8) : List Tok :=
  match l with
  | a :: b :: c :: n :: rest => ⟨256 * (a.toNat : Int) + b.toNat - 2, (c.toNat : Int) - 1, rest.take n.toNat⟩ :: tokList (rest.drop n.toNat)
  | _ => []
termination_by l.length
decreasing_by simp; omega
theorem tokList_short (l : List UInt8) (h : l.length < 4) : tokList l = [] := by
  unfold tokList
  split
  · simp at h; omega
  · rfl
theorem tokList_cons (a b c n : UInt8) (rest : List UInt8) : tokList (a :: b :: c :: n :: rest) = ⟨256 * (a.toNat : Int) + b.toNat - 2, (c.toNat : Int) - 1, rest.take n.toNat⟩ :: tokList (rest.drop n.toNat) := by
  conv => lhs; unfold tokList
theorem ext_drop (r : ByteArray) (n : Nat) : (r.extract n r.size).data.toList = r.data.toList.drop n := by
  rw [ByteArray.data_extract, Array.toList_extract, List.extract_eq_take_drop, List.take_of_length_le]
  simp
theorem ext_take (r : ByteArray) (n : Nat) : (r.extract 0 n).data.toList = r.data.toList.take n := by
  rw [ByteArray.data_extract, Array.toList_extract, List.extract_eq_take_drop]; simp
theorem ex_tail (r : ByteArray) : (r.extract 4 r.size).data.toList = r.data.toList.drop 4 := by
  rw [ByteArray.data_extract, Array.toList_extract, List.extract_eq_take_drop, List.take_of_length_le]
  simp
theorem ex_take (r : ByteArray) (n : Nat) : ((r.extract 4 r.size).extract 0 n).data.toList = (r.data.toList.drop 4).take n := by
  rw [ByteArray.data_extract, Array.toList_extract, List.extract_eq_take_drop, ex_tail]; simp
theorem ex_drop (r : ByteArray) (n m : Nat) (hm : m = r.size - 4) : ((r.extract 4 r.size).extract n m).data.toList = (r.data.toList.drop 4).drop n := by
  rw [ByteArray.data_extract, Array.toList_extract, List.extract_eq_take_drop, ex_tail, List.take_of_length_le]
  simp; omega
theorem tokList_step (r : ByteArray) (h : 4 ≤ r.size) (n : Nat) (hn : n = min r[3].toNat (r.size - 4)) (d r' : ByteArray) (hd : d.data.toList = (r.data.toList.drop 4).take n) (hr : r'.data.toList = (r.data.toList.drop 4).drop n) :
    tokList r.data.toList = ⟨256 * (r[0].toNat : Int) + r[1].toNat - 2, (r[2].toNat : Int) - 1, d.data.toList⟩ :: tokList r'.data.toList := by
  have hl : r.data.toList.length = r.size := by simp
  have g : ∀ (i : Nat) (hi : i < r.size), r.data.toList[i]'(by rw [hl]; exact hi) = r[i] := fun i hi => rfl
  match hm : r.data.toList, hl with
  | [], hl => simp at hl; omega
  | [_], hl => simp at hl; omega
  | [_, _], hl => simp at hl; omega
  | [_, _, _], hl => simp at hl; omega
  | a :: b :: c :: q :: rest, hl =>
    have e0 : r[0] = a := by rw [← g 0 (by omega)]; simp [hm]
    have e1 : r[1] = b := by rw [← g 1 (by omega)]; simp [hm]
    have e2 : r[2] = c := by rw [← g 2 (by omega)]; simp [hm]
    have e3 : r[3] = q := by rw [← g 3 (by omega)]; simp [hm]
    have hs : r.size - 4 = rest.length := by simp at hl; omega
    rw [hm] at hd hr
    rw [e3, hs] at hn
    simp only [List.drop_succ_cons, List.drop_zero] at hd hr
    rw [tokList_cons, e0, e1, e2, hd, hr, hn]
    congr 2
    · rw [List.take_eq_take_iff]; omega
    · rcases Nat.le_total q.toNat rest.length with h1 | h1
      · rw [Nat.min_eq_left h1]
      · rw [Nat.min_eq_right h1, List.drop_eq_nil_of_le h1, List.drop_length]
theorem tokList_data (l : List UInt8) : ∀ t ∈ tokList l, t.d.length ≤ 255 := by
  have key : ∀ (k : Nat) (l : List UInt8), l.length ≤ k → ∀ t ∈ tokList l, t.d.length ≤ 255 := by
    intro k
    induction k with
    | zero => intro l h t ht; rw [tokList_short l (by omega)] at ht; simp at ht
    | succ k ih =>
      intro l h t ht
      by_cases h4 : l.length < 4
      · rw [tokList_short l h4] at ht; simp at ht
      · match l, h4 with
        | a :: b :: c :: n :: rest, _ =>
          rw [tokList_cons] at ht
          rcases List.mem_cons.1 ht with rfl | ht
          · have := n.toNat_lt; simp; omega
          · exact ih _ (by simp at h ⊢; omega) t ht
        | [], h4 => simp at h4
        | [_], h4 => simp at h4
        | [_, _], h4 => simp at h4
        | [_, _, _], h4 => simp at h4
  exact key _ l (Nat.le_refl _)
theorem tokList_len (l : List UInt8) : 4 * (tokList l).length ≤ l.length := by
  have key : ∀ (k : Nat) (l : List UInt8), l.length ≤ k → 4 * (tokList l).length ≤ l.length := by
    intro k
    induction k with
    | zero => intro l h; rw [tokList_short l (by omega)]; simp
    | succ k ih =>
      intro l h
      by_cases h4 : l.length < 4
      · rw [tokList_short l h4]; simp
      · match l, h4 with
        | a :: b :: c :: n :: rest, _ =>
          rw [tokList_cons]
          have := ih (rest.drop n.toNat) (by simp at h ⊢; omega)
          simp at this ⊢
          omega
        | [], h4 => simp at h4
        | [_], h4 => simp at h4
        | [_, _], h4 => simp at h4
        | [_, _, _], h4 => simp at h4
  exact key _ l (Nat.le_refl _)
end Go.Proofs.YtlcdgbhigfgehabGreatDoor
