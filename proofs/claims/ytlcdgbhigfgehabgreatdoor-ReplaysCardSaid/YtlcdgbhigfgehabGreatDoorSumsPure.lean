/- Plain facts, no program in sight: the weak sum, its rolling on, the digest, as numbers of lists of bytes. -/
import Derived.Laws.Bits64
import Derived.Laws.BitsLemmas
import Derived.Below
import Derived.IntWalk
namespace Go.Proofs.YtlcdgbhigfgehabGreatDoor
open Go.RowKit

def wstep (p : Nat × Nat) (c : UInt8) : Nat × Nat := ((p.1 + c.toNat) % 65536, (p.2 + (p.1 + c.toNat) % 65536) % 65536)
def wsum (l : List UInt8) : Nat × Nat := l.foldl wstep (0, 0)
def weakOf (l : List UInt8) : Nat := (wsum l).2 * 65536 + (wsum l).1
def sumA : List UInt8 → Nat
  | [] => 0
  | c :: l => c.toNat + sumA l
def sumR (n : Nat) : List UInt8 → Nat
  | [] => 0
  | c :: l => n * c.toNat + sumR (n - 1) l
def rollOf (wk n o i : Int) : Int := ((wk / 65536 - n * o + (wk - o + i) % 65536) % 65536) * 65536 + (wk - o + i) % 65536
def dgInit : Int := 14695981039346656037
def dgStep (v : Int) (c : UInt8) : Int := IntKind.u64.wrap (bits .xor .u64 v (IntKind.u64.wrap (c.toNat : Int)) * 1099511628211)
def dgFold (v : Int) (l : List UInt8) : Int := l.foldl dgStep v
def dgOf (l : List UInt8) : Int := dgFold dgInit l

theorem wsum_snoc (l : List UInt8) (c : UInt8) : wsum (l ++ [c]) = wstep (wsum l) c := by simp [wsum]
theorem dgOf_snoc (l : List UInt8) (c : UInt8) : dgOf (l ++ [c]) = dgStep (dgOf l) c := by simp [dgOf, dgFold]
theorem dgOf_nil : dgOf [] = dgInit := rfl
theorem wsum_lt (l : List UInt8) : (wsum l).1 < 65536 ∧ (wsum l).2 < 65536 := by
  rcases List.eq_nil_or_concat l with rfl | ⟨l', c, rfl⟩
  · simp [wsum]
  · rw [List.concat_eq_append, wsum_snoc]; simp only [wstep]; omega
theorem weakOf_lt (l : List UInt8) : weakOf l < 4294967296 := by have := wsum_lt l; unfold weakOf; omega
theorem take_snoc (l : List UInt8) (k : Nat) (h : k < l.length) : l.take (k + 1) = l.take k ++ [l[k]] := by
  rw [List.take_succ_eq_append_getElem h]
theorem sumA_append (l m : List UInt8) : sumA (l ++ m) = sumA l + sumA m := by
  induction l with
  | nil => simp [sumA]
  | cons c l ih => simp [sumA, ih]; omega
theorem sumR_snoc (n : Nat) (l : List UInt8) (c : UInt8) : sumR n (l ++ [c]) = sumR n l + (n - l.length) * c.toNat := by
  induction l generalizing n with
  | nil => simp [sumR]
  | cons d l ih => simp [sumR, ih]; rw [show n - 1 - l.length = n - (l.length + 1) from by omega]; omega
theorem sumR_succ (n : Nat) (l : List UInt8) (h : l.length ≤ n) : sumR (n + 1) l = sumR n l + sumA l := by
  induction l generalizing n with
  | nil => simp [sumR, sumA]
  | cons c l ih =>
    simp only [List.length_cons] at h
    obtain ⟨m, rfl⟩ : ∃ m, n = m + 1 := ⟨n - 1, by omega⟩
    have := ih m (by omega)
    simp only [sumR, sumA, Nat.add_sub_cancel]
    rw [this, Nat.add_mul (m + 1) 1 c.toNat]; omega
theorem sumA_le (l : List UInt8) : sumA l ≤ 255 * l.length := by
  induction l with
  | nil => simp [sumA]
  | cons c l ih => simp only [sumA, List.length_cons]; have := c.toNat_lt; omega
theorem sumR_le (n : Nat) (l : List UInt8) : sumR n l ≤ 255 * l.length * n := by
  induction l generalizing n with
  | nil => simp [sumR]
  | cons c l ih =>
    simp only [sumR, List.length_cons]
    have h1 := ih (n - 1)
    have h2 : 255 * l.length * (n - 1) ≤ 255 * l.length * n := Nat.mul_le_mul_left _ (by omega)
    have h3 : n * c.toNat ≤ n * 255 := Nat.mul_le_mul_left _ (by have := c.toNat_lt; omega)
    have h4 : 255 * (l.length + 1) * n = 255 * l.length * n + 255 * n := by rw [Nat.mul_add, Nat.add_mul, Nat.mul_one]
    omega
theorem wsum_eq (l : List UInt8) : (wsum l).1 = sumA l % 65536 ∧ (wsum l).2 = sumR l.length l % 65536 := by
  have key : ∀ (k : Nat) (l : List UInt8), l.length = k → (wsum l).1 = sumA l % 65536 ∧ (wsum l).2 = sumR l.length l % 65536 := by
    intro k
    induction k with
    | zero => intro l h; rw [List.length_eq_zero_iff.1 h]; simp [wsum, sumA, sumR]
    | succ k ih =>
      intro l h
      rcases List.eq_nil_or_concat l with rfl | ⟨l', c, rfl⟩
      · simp at h
      · rw [List.concat_eq_append] at h ⊢
        have hl : l'.length = k := by simpa using h
        have := ih l' hl
        rw [wsum_snoc, sumA_append, List.length_append, sumR_snoc]
        simp only [List.length_cons, List.length_nil, wstep, sumA, this.1, this.2]
        rw [sumR_succ _ _ (by omega)]
        rw [show l'.length + (0 + 1) - l'.length = 1 from by omega]
        constructor <;> omega
  exact key _ l rfl
/-- A window moved on by a byte. -/
theorem weakOf_roll (c d : UInt8) (l : List UInt8) :
    rollOf (weakOf (c :: l)) ((l.length + 1 : Nat) : Int) c.toNat d.toNat = weakOf (l ++ [d]) := by
  have h1 := wsum_eq (c :: l)
  have h2 := wsum_eq (l ++ [d])
  have h3 := wsum_lt (c :: l)
  rw [sumA_append, List.length_append, sumR_snoc] at h2
  simp only [List.length_cons, List.length_nil, sumA, sumR, Nat.add_sub_cancel] at h1 h2
  rw [show l.length + (0 + 1) - l.length = 1 from by omega] at h2
  have h6 := sumR_succ l.length l (Nat.le_refl _)
  rw [show l.length + (0 + 1) = l.length + 1 from by omega] at h2
  have hA := wsum_lt (c :: l)
  unfold rollOf weakOf
  generalize (wsum (c :: l)).1 = a1 at *
  generalize (wsum (c :: l)).2 = b1 at *
  generalize (wsum (l ++ [d])).1 = a2 at *
  generalize (wsum (l ++ [d])).2 = b2 at *
  generalize hp : (l.length + 1) * c.toNat = p at *
  have hp' : ((l.length + 1 : Nat) : Int) * (c.toNat : Int) = (p : Int) := by rw [← hp]; simp
  rw [hp']
  omega
theorem wr_u32 (n : Int) (h₀ : 0 ≤ n) (h₁ : n < 2 ^ 32) : IntKind.u32.wrap n = n := by rw [IntKind.wrap_u32]; omega
theorem or16 (a b : Nat) (ha : a < 65536) (hb : b < 65536) :
    bits BinOp.or IntKind.u32 ((b : Int) % 4294967296 * 65536 % 4294967296) ((a : Int) % 4294967296) = ((b * 65536 + a : Nat) : Int) := by
  rw [show (b : Int) % 4294967296 * 65536 % 4294967296 = (b : Int) * 65536 from by omega, show (a : Int) % 4294967296 = a from by omega]
  rw [bits_join .u32 32 (by decide) wr_u32 16 ((b : Int) * 65536) a (by omega) (by omega) (by omega) (by omega) (by omega) (by omega)]
  omega
theorem w16 (n : Int) : IntKind.u16.wrap n = n % 65536 := by simp [IntKind.wrap, IntKind.bits, IntKind.signed]
theorem roll_bits (wk n o i : Int) :
    bits BinOp.or IntKind.u32
      (IntKind.u16.wrap (IntKind.u16.wrap (wk / 65536 - IntKind.u16.wrap (IntKind.u16.wrap n * o)) + IntKind.u16.wrap (IntKind.u16.wrap (IntKind.u16.wrap wk - o) + i)) % 4294967296 * 65536 % 4294967296)
      (IntKind.u16.wrap (IntKind.u16.wrap (IntKind.u16.wrap wk - o) + i) % 4294967296) = rollOf wk n o i := by
  simp only [w16]
  have ha : ((wk % 65536 - o) % 65536 + i) % 65536 = (wk - o + i) % 65536 := by omega
  rw [ha]
  have hb : ((wk / 65536 - n % 65536 * o % 65536) % 65536 + (wk - o + i) % 65536) % 65536 = (wk / 65536 - n * o + (wk - o + i) % 65536) % 65536 := by
    have : n % 65536 * o % 65536 = n * o % 65536 := by rw [Int.mul_emod, Int.emod_emod, ← Int.mul_emod]
    omega
  rw [hb]
  unfold rollOf
  generalize hA : (wk - o + i) % 65536 = A
  generalize hB : (wk / 65536 - n * o + A) % 65536 = B
  have h := or16 A.toNat B.toNat (by omega) (by omega)
  rw [show ((A.toNat : Nat) : Int) = A from by omega, show ((B.toNat : Nat) : Int) = B from by omega] at h
  rw [h]; omega
theorem dgOf_take0 (l : List UInt8) : dgOf (l.take 0) = 14695981039346656037 := rfl
theorem mod_pos (v : Int) (h : 0 ≤ v.tmod 65536) : v.tmod 65536 = v % 65536 := by
  rcases Int.le_total 0 v with h1 | h1
  · exact Int.tmod_eq_emod_of_nonneg h1
  · obtain ⟨n, rfl⟩ : ∃ n : Nat, v = -(n : Int) := ⟨(-v).toNat, by omega⟩
    rw [Int.neg_tmod, Int.tmod_eq_emod_of_nonneg (by omega)] at h ⊢
    omega
theorem mod_neg (v : Int) (h : v.tmod 65536 < 0) : wrap64 (v.tmod 65536 + 65536) = v % 65536 := by
  rcases Int.le_total 0 v with h1 | h1
  · rw [Int.tmod_eq_emod_of_nonneg h1] at h; omega
  · obtain ⟨n, rfl⟩ : ∃ n : Nat, v = -(n : Int) := ⟨(-v).toNat, by omega⟩
    rw [Int.neg_tmod, Int.tmod_eq_emod_of_nonneg (by omega)] at h ⊢
    unfold wrap64
    omega
theorem rw_a (l : List UInt8) (k : Nat) (h : k < l.length) (hl : l.length ≤ 100000) :
    wrap64 ((sumA (l.take k) : Int) + wrap64 (l[k].toNat : Int)) = (sumA (l.take (k + 1)) : Int) := by
  rw [take_snoc _ _ h, sumA_append]
  have h1 := sumA_le (l.take k)
  have h2 : (l.take k).length ≤ k := List.length_take_le _ _
  have h3 := l[k].toNat_lt
  rw [IntWalk.wrap64_in (l[k].toNat : Int) (by omega), IntWalk.wrap64_in _ (by omega)]
  simp [sumA]
theorem rw_b (l : List UInt8) (n k : Nat) (hn : l.length = n) (h : k < l.length) (hl : n ≤ 100000) :
    wrap64 ((sumR n (l.take k) : Int) + wrap64 ((n - k : Int) * wrap64 (l[k].toNat : Int))) = (sumR n (l.take (k + 1)) : Int) := by
  subst hn
  rw [take_snoc _ _ h, sumR_snoc]
  have h1 := sumR_le l.length (l.take k)
  have h2 : (l.take k).length = k := by rw [List.length_take]; omega
  have h3 := l[k].toNat_lt
  rw [h2] at h1 ⊢
  have h4 : 255 * k * l.length ≤ 255 * 100000 * 100000 := Nat.mul_le_mul (by omega) hl
  have h5 : (l.length - k) * l[k].toNat ≤ 100000 * 256 := Nat.mul_le_mul (by omega) (by omega)
  have h6 : ((l.length : Int) - k) * (l[k].toNat : Int) = (((l.length - k) * l[k].toNat : Nat) : Int) := by
    rw [Int.natCast_mul, Int.ofNat_sub (by omega)]
  rw [IntWalk.wrap64_in (l[k].toNat : Int) (by omega), h6]
  generalize (l.length - k) * l[k].toNat = q at *
  rw [IntWalk.wrap64_in (q : Int) (by omega), IntWalk.wrap64_in _ (by omega)]
  omega
theorem weakOf_ref (l : List UInt8) : (sumR l.length l : Int) % 65536 * 65536 + (sumA l : Int) % 65536 = weakOf l := by
  have := wsum_eq l
  unfold weakOf
  omega
theorem roll_ref (wk n o i : Int) (h3 : 0 ≤ o) (h4 : o ≤ 255) :
    (wk / 65536 - wrap64 (n % 65536 * o) % 65536 + (wk % 65536 - o + i)) % 65536 * 65536 + (wk % 65536 - o + i) % 65536 = rollOf wk n o i := by
  have hm : (n % 65536 * o) % 65536 = n * o % 65536 := by rw [Int.mul_emod, Int.emod_emod, ← Int.mul_emod]
  have hb : 0 ≤ n % 65536 * o ∧ n % 65536 * o ≤ 65536 * 255 := by
    have h1 : 0 ≤ n % 65536 := by omega
    exact ⟨Int.mul_nonneg h1 h3, Int.mul_le_mul (by omega) h4 h3 (by omega)⟩
  generalize n % 65536 * o = q at *
  rw [IntWalk.wrap64_in q (by omega)]
  unfold rollOf
  generalize n * o = r at *
  omega
end Go.Proofs.YtlcdgbhigfgehabGreatDoor
