/- A batch written and read again, in plain terms. No program in sight. -/
import Derived.Test.YtlcdgbhigfgehabGreatDoorTreePure
import Derived.Test.YtlcdgbhigfgehabGreatDoorDiffPure
namespace Go.Proofs.YtlcdgbhigfgehabGreatDoor
open Go.Op

/-- A number in n bytes. -/
def putN : Nat → Nat → List UInt8
  | 0, _ => []
  | n + 1, v => UInt8.ofNat (v / 256 ^ n) :: putN n v
theorem length_putN (n v : Nat) : (putN n v).length = n := by induction n with
  | zero => rfl
  | succ n ih => simp [putN, ih]
theorem foldl_putN (n : Nat) : ∀ (v a : Nat), (putN n v).foldl (fun v c => 256 * v + c.toNat) a = a * 256 ^ n + v % 256 ^ n := by
  induction n with
  | zero => intro v a; simp [putN, Nat.mod_one]
  | succ n ih =>
    intro v a
    simp only [putN, List.foldl_cons]
    rw [ih, Nat.pow_succ]
    have h1 : (UInt8.ofNat (v / 256 ^ n)).toNat = v / 256 ^ n % 256 := by simp
    rw [h1, Nat.mod_mul, Nat.add_mul, Nat.mul_comm 256 a, Nat.mul_assoc, Nat.mul_comm (256 ^ n) 256, Nat.mul_comm (256 ^ n) (v / 256 ^ n % 256)]
    omega
theorem numOf_putN (n v : Nat) (h : v < 256 ^ n) : numOf (putN n v) = v := by
  have := foldl_putN n v 0
  unfold numOf
  rw [this, Nat.mod_eq_of_lt h]; omega
theorem numN_putN (n v : Nat) (r : List UInt8) (h : v < 256 ^ n) : numN n (putN n v ++ r) = some (v, r) := by
  unfold numN
  rw [if_neg (by simp [length_putN]), List.take_left' (length_putN n v), List.drop_left' (length_putN n v), numOf_putN n v h]
theorem takeN_append (l r : List UInt8) : takeN l.length (l ++ r) = some (l, r) := by
  unfold takeN
  rw [if_neg (by simp), List.take_left, List.drop_left]
def byteN (v : Nat) : List UInt8 := [UInt8.ofNat v]
theorem numN_one (c : UInt8) (r : List UInt8) : numN 1 (c :: r) = some (c.toNat, r) := by
  unfold numN
  rw [if_neg (by simp)]
  simp [numOf]
theorem numN_byte (v : Nat) (r : List UInt8) (h : v < 256) : numN 1 (UInt8.ofNat v :: r) = some (v, r) := by
  rw [numN_one]; simp; omega
/-- The digest as a number. -/
def dgN (l : List UInt8) : Nat := (dgOf l).toNat
/-- What is written of a file. -/
def entB (f : Fil) : List UInt8 := UInt8.ofNat f.name.length :: (f.name ++ putN 2 f.data.length ++ putN 8 (dgN f.data))
def entOf (f : Fil) : Ent := ⟨f.name, f.data.length, dgN f.data⟩
/-- What is written of a token. -/
def tokB (t : Tok) : List UInt8 := if t.c = 0 then 0 :: UInt8.ofNat t.d.length :: t.d else 1 :: (putN 2 t.b.toNat ++ [UInt8.ofNat t.c.toNat])
def toksB (l : List Tok) : List UInt8 := putN 2 l.length ++ l.flatMap tokB
def targToks (ref : List Fil) (blk : Nat) (f : Fil) : List Tok := diffOf (baseOf ref f.name) f.data blk
def targB (ref : List Fil) (blk : Nat) (f : Fil) : List UInt8 := entB f ++ toksB (targToks ref blk f)
def targOf (ref : List Fil) (blk : Nat) (f : Fil) : Targ := ⟨entOf f, targToks ref blk f⟩
def headB (ref : List Fil) (blk : Nat) : List UInt8 := [66, 65, 84, UInt8.ofNat blk, UInt8.ofNat ref.length]
def recBody (src ref : List Fil) (blk : Nat) : List UInt8 := headB ref blk ++ ref.flatMap entB ++ UInt8.ofNat src.length :: src.flatMap (targB ref blk)
/-- The batch of two trees. -/
def recOf (src ref : List Fil) (blk : Nat) : List UInt8 := recBody src ref blk ++ putN 8 (dgN (recBody src ref blk))

theorem dgOf_bounds (l : List UInt8) : 0 ≤ dgOf l ∧ dgOf l < 18446744073709551616 := by
  rcases List.eq_nil_or_concat l with rfl | ⟨l', x, rfl⟩
  · decide
  · rw [List.concat_eq_append, dgOf_snoc]
    unfold dgStep
    simp [IntKind.wrap, IntKind.bits, IntKind.signed]
    omega
theorem dgN_lt (l : List UInt8) : dgN l < 256 ^ 8 := by have := dgOf_bounds l; unfold dgN; omega
theorem dgN_int (l : List UInt8) : (dgN l : Int) = dgOf l := by have := dgOf_bounds l; unfold dgN; omega
theorem entN_entB (f : Fil) (last : List UInt8) (first : Bool) (r : List UInt8) (h : isName f.name = true) (h2 : f.data.length ≤ 300) (h3 : first = true ∨ bytesLess last f.name = true) :
    entN last first (entB f ++ r) = some (entOf f, r) := by
  have hl : f.name.length < 256 := by
    unfold isName at h
    simp at h; omega
  unfold entN entB
  simp only [List.cons_append, List.append_assoc]
  rw [numN_byte _ _ hl]
  simp only
  rw [takeN_append]
  simp only
  rw [if_neg, numN_putN 2 _ _ (by omega)]
  · simp only
    rw [if_neg (by omega), numN_putN 8 _ _ (dgN_lt _)]
    rfl
  · rw [behind_iff, h]
    rcases h3 with h3 | h3 <;> simp [h3]
theorem entsF_entB : ∀ (l : List Fil) (acc : List Ent) (r : List UInt8), (∀ f ∈ l, isName f.name = true ∧ f.data.length ≤ 300) → l.Pairwise (fun f g => bytesLess f.name g.name = true) → (acc ≠ [] → ∀ f ∈ l, bytesLess (lastName acc) f.name = true) →
    entsF l.length acc (l.flatMap entB ++ r) = some (acc ++ l.map entOf, r) := by
  intro l
  induction l with
  | nil => intro acc r _ _ _; simp [entsF]
  | cons f l ih =>
    intro acc r h1 h2 h3
    rw [List.pairwise_cons] at h2
    simp only [List.length_cons, entsF, List.flatMap_cons, List.append_assoc]
    rw [entN_entB f _ _ _ (h1 f (by simp)).1 (h1 f (by simp)).2]
    · simp only
      rw [ih _ _ (fun g hg => h1 g (by simp [hg])) h2.2 (fun _ g hg => by rw [lastName_snoc]; exact h2.1 g hg)]
      simp
    · cases acc with
      | nil => left; rfl
      | cons a acc => right; exact h3 (by simp) f (by simp)
/-- How many bytes a token makes. -/
def makesN (basis blk : Nat) (t : Tok) : Nat := if t.c = 0 then t.d.length else madeOf basis blk t.b.toNat t.c.toNat
theorem makesN_eq (base : List UInt8) (blk : Nat) (t : Tok) : makesN base.length blk t = (tokMake base blk t).length := by
  unfold makesN tokMake
  split
  · rfl
  · simp only [List.length_take, List.length_drop]
    unfold madeOf
    rw [Nat.add_mul]
    omega
theorem applyF_sum (base : List UInt8) (blk : Nat) : ∀ (l : List Tok) (o r : List UInt8), applyF base blk l o = .inr r → r.length = o.length + (l.map (makesN base.length blk)).sum := by
  intro l
  induction l with
  | nil => intro o r h; simp [applyF] at h; subst h; simp
  | cons t l ih =>
    intro o r h
    simp only [applyF] at h
    split at h
    · split at h
      · cases h
      · have := ih _ _ h
        rw [this]
        simp only [List.length_append, List.map_cons, List.sum_cons, makesN_eq]
        omega
    · cases h
theorem applyF_ok (base : List UInt8) (blk : Nat) : ∀ (l : List Tok) (o r : List UInt8), applyF base blk l o = .inr r → ∀ t ∈ l, tokOk (nBlocks base.length blk) t = true := by
  intro l
  induction l with
  | nil => intro o r h t ht; simp at ht
  | cons t l ih =>
    intro o r h t' ht'
    simp only [applyF] at h
    split at h
    · rename_i hk
      split at h
      · cases h
      · rcases List.mem_cons.1 ht' with rfl | ht'
        · exact hk
        · exact ih _ _ h t' ht'
    · cases h
theorem tokN_tokB (t : Tok) (basis blk : Nat) (r : List UInt8) (hb : nBlocks basis blk ≤ 300) (hs : Shaped t) (hk : tokOk (nBlocks basis blk) t = true) :
    tokN blk basis (tokB t ++ r) = some ((t, makesN basis blk t), r) := by
  obtain ⟨tb, tc, td⟩ := t
  unfold tokB tokN makesN
  rcases hs with ⟨h1, h2, h3, h4⟩ | ⟨h1, h2, h3, h4⟩
  · simp only at h1 h2 h3 h4
    subst h1 h2
    simp only [if_pos, List.cons_append]
    rw [numN_one]
    simp only [show (0 : UInt8).toNat = 0 from rfl, if_pos]
    rw [numN_byte _ _ (by omega)]
    simp only
    rw [if_neg (by omega), takeN_append]
  · simp only at h1 h2 h3 h4
    subst h4
    obtain ⟨b, rfl⟩ := Int.eq_ofNat_of_zero_le h3
    obtain ⟨c, rfl⟩ := Int.eq_ofNat_of_zero_le (a := tc) (by omega)
    have hbc : b + c ≤ nBlocks basis blk := by
      unfold tokOk at hk
      simp at hk
      omega
    have hne : ¬ ((c : Int) = 0) := by omega
    simp only [if_neg hne, List.cons_append, List.append_assoc]
    rw [numN_one]
    simp only [show (1 : UInt8).toNat = 1 from rfl, if_neg (show ¬ (1 : Nat) = 0 by omega), if_true, Int.toNat_natCast]
    rw [numN_putN 2 _ _ (by omega)]
    simp only [List.nil_append]
    rw [numN_byte _ _ (by omega)]
    simp only
    rw [if_pos ⟨by omega, hbc⟩]
theorem toksF_toksB (basis blk : Nat) (hb : nBlocks basis blk ≤ 300) : ∀ (l acc : List Tok) (s : Nat) (r : List UInt8), (∀ t ∈ l, Shaped t ∧ tokOk (nBlocks basis blk) t = true) →
    toksF blk basis l.length acc s (l.flatMap tokB ++ r) = some ((acc ++ l, s + (l.map (makesN basis blk)).sum), r) := by
  intro l
  induction l with
  | nil => intro acc s r _; simp [toksF]
  | cons t l ih =>
    intro acc s r h
    simp only [List.length_cons, toksF, List.flatMap_cons, List.append_assoc]
    rw [tokN_tokB t basis blk _ hb (h t (by simp)).1 (h t (by simp)).2]
    simp only
    rw [ih _ _ _ (fun t ht => h t (by simp [ht]))]
    simp [Nat.add_assoc]
theorem tksN_toksB (base data : List UInt8) (blk : Nat) (hb : 0 < blk) (h1 : base.length ≤ 300) (h2 : data.length ≤ 300) (r : List UInt8) :
    tksN blk base.length data.length (toksB (diffOf base data blk) ++ r) = some (diffOf base data blk, r) := by
  obtain ⟨d1, d2, d3⟩ := diff_makes base data blk hb h2
  have hn := (nBlocks_mul base.length blk hb).2.2
  unfold tksN toksB
  rw [List.append_assoc, numN_putN 2 _ _ (by omega)]
  simp only
  rw [toksF_toksB _ _ (by omega) _ _ _ _ (fun t ht => ⟨d2 t ht, applyF_ok _ _ _ _ _ d1 t ht⟩)]
  have := applyF_sum _ _ _ _ _ d1
  simp only [List.nil_append]
  rw [if_pos (by simp at this; omega)]
theorem baseOf_len (l : List Fil) (h : ∀ f ∈ l, f.data.length ≤ 300) (n : List UInt8) : (baseOf l n).length ≤ 300 := by
  unfold baseOf
  induction l with
  | nil => simp [findF]
  | cons f l ih =>
    unfold findF
    split
    · simpa using h f (by simp)
    · exact ih (fun g hg => h g (by simp [hg]))
theorem sizeIn_base (l : List Fil) (h : l.Pairwise fun f g => bytesLess f.name g.name = true) (n : List UInt8) : sizeIn (l.map entOf) n = (baseOf l n).length := by
  unfold baseOf
  rw [find_last l h n]
  have key : ∀ (l : List Fil) (o : Option (List UInt8)) (s : Nat), s = (o.getD []).length → (l.map entOf).foldl (fun s e => if e.name = n then e.size else s) s = ((l.foldl (fun o f => if f.name = n then some f.data else o) o).getD []).length := by
    intro l
    induction l with
    | nil => intro o s h; exact h
    | cons f l ih =>
      intro o s h
      simp only [List.map_cons, List.foldl_cons]
      refine ih _ _ ?_
      rw [show (entOf f).name = f.name from rfl]
      by_cases hn : f.name = n
      · rw [if_pos hn, if_pos hn]; rfl
      · rw [if_neg hn, if_neg hn]; exact h
  exact key l none 0 rfl
theorem targsF_targB (ref : List Fil) (hr : IsTree ref) (blk : Nat) (hb : 0 < blk) : ∀ (l : List Fil) (acc : List Targ) (r : List UInt8), (∀ f ∈ l, isName f.name = true ∧ f.data.length ≤ 300) → l.Pairwise (fun f g => bytesLess f.name g.name = true) →
    (acc ≠ [] → ∀ f ∈ l, bytesLess (lastName (acc.map (·.ent))) f.name = true) →
    targsF blk (ref.map entOf) l.length acc (l.flatMap (targB ref blk) ++ r) = some (acc ++ l.map (targOf ref blk), r) := by
  intro l
  induction l with
  | nil => intro acc r _ _ _; simp [targsF]
  | cons f l ih =>
    intro acc r h1 h2 h3
    rw [List.pairwise_cons] at h2
    simp only [List.length_cons, targsF, List.flatMap_cons, List.append_assoc, targB]
    rw [entN_entB f _ _ _ (h1 f (by simp)).1 (h1 f (by simp)).2]
    · simp only
      rw [show (entOf f).name = f.name from rfl, show (entOf f).size = f.data.length from rfl, sizeIn_base ref hr.up, targToks, tksN_toksB _ _ _ hb (baseOf_len _ (fun g hg => (hr.ok g hg).2) _) (h1 f (by simp)).2]
      simp only
      have := ih (acc ++ [⟨entOf f, diffOf (baseOf ref f.name) f.data blk⟩]) r (fun g hg => h1 g (by simp [hg])) h2.2 (fun _ g hg => by rw [List.map_append, List.map_singleton, lastName_snoc]; exact h2.1 g hg)
      rw [this]
      simp [targOf, targToks]
    · cases acc with
      | nil => left; rfl
      | cons a acc => right; exact h3 (by simp) f (by simp)
theorem bodyN_rec (src ref : List Fil) (blk : Nat) (hs : IsTree src) (hr : IsTree ref) (hb : 1 ≤ blk) (hb2 : blk ≤ 64) (r : List UInt8) :
    bodyN (recBody src ref blk ++ r) = some (⟨blk, ref.map entOf, src.map (targOf ref blk)⟩, r) := by
  unfold bodyN recBody headB
  simp only [List.append_assoc, List.cons_append, List.nil_append]
  rw [show takeN 3 (66 :: 65 :: 84 :: UInt8.ofNat blk :: UInt8.ofNat ref.length :: (ref.flatMap entB ++ UInt8.ofNat src.length :: (src.flatMap (targB ref blk) ++ r))) = some ([66, 65, 84], UInt8.ofNat blk :: UInt8.ofNat ref.length :: (ref.flatMap entB ++ UInt8.ofNat src.length :: (src.flatMap (targB ref blk) ++ r))) from by simp [takeN]]
  simp only
  rw [if_neg (by simp), numN_byte _ _ (by omega)]
  simp only
  rw [if_neg (by omega), numN_byte _ _ (by have := hr.len; omega)]
  simp only
  rw [if_neg (by have := hr.len; omega), entsF_entB _ _ _ hr.ok hr.up (fun h => absurd rfl h)]
  simp only
  rw [numN_byte _ _ (by have := hs.len; omega)]
  simp only
  rw [if_neg (by have := hs.len; omega)]
  simp only [List.nil_append]
  rw [targsF_targB ref hr blk hb src [] r hs.ok hs.up (fun h => absurd rfl h)]
  rfl
/-- A batch that is recorded reads as what went in. -/
theorem read_rec (src ref : List Fil) (blk : Nat) (hs : IsTree src) (hr : IsTree ref) (hb : 1 ≤ blk) (hb2 : blk ≤ 64) :
    readOf (recOf src ref blk) = some ⟨blk, ref.map entOf, src.map (targOf ref blk)⟩ := by
  unfold readOf recOf
  rw [bodyN_rec src ref blk hs hr hb hb2]
  simp only
  rw [if_pos]
  refine ⟨length_putN _ _, ?_⟩
  rw [numOf_putN _ _ (dgN_lt _), dgN_int, length_putN, List.length_append, length_putN, Nat.add_sub_cancel, List.take_left]
end Go.Proofs.YtlcdgbhigfgehabGreatDoor
