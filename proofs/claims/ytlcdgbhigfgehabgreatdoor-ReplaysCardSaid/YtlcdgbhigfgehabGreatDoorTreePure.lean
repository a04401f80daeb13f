/- Names in order, trees, in plain terms. No program in sight. -/
import Derived.Test.YtlcdgbhigfgehabGreatDoorReadPure
namespace Go.Proofs.YtlcdgbhigfgehabGreatDoor
open Go.Op

theorem bytesLess_irrefl (a : List UInt8) : bytesLess a a = false := by
  induction a with
  | nil => rfl
  | cons x a ih => simp [bytesLess, ih]
theorem bytesLess_nil (a : List UInt8) : bytesLess a [] = false := by cases a <;> rfl
theorem bytesLess_cons (x y : UInt8) (a b : List UInt8) : bytesLess (x :: a) (y :: b) = (decide (x < y) || (x == y && bytesLess a b)) := rfl
theorem u8_trans {x y z : UInt8} (h : x < y) (h2 : y < z) : x < z := by
  rw [UInt8.lt_iff_toNat_lt] at *; omega
theorem u8_tri (x y : UInt8) : x < y ∨ x = y ∨ y < x := by
  rw [UInt8.lt_iff_toNat_lt, UInt8.lt_iff_toNat_lt]
  by_cases h : x.toNat = y.toNat
  · exact .inr (.inl (UInt8.toNat_inj.1 h))
  · omega
theorem u8_asymm {x y : UInt8} (h : x < y) : ¬ y < x := by
  rw [UInt8.lt_iff_toNat_lt] at *; omega
theorem u8_ne {x y : UInt8} (h : x < y) : x ≠ y := by
  rintro rfl; rw [UInt8.lt_iff_toNat_lt] at *; omega
theorem bytesLess_trans : ∀ (a b c : List UInt8), bytesLess a b = true → bytesLess b c = true → bytesLess a c = true := by
  intro a
  induction a with
  | nil =>
    intro b c h1 h2
    cases c with
    | nil => rw [bytesLess_nil] at h2; cases h2
    | cons z c => rfl
  | cons x a ih =>
    intro b c h1 h2
    cases b with
    | nil => rw [bytesLess_nil] at h1; cases h1
    | cons y b =>
      cases c with
      | nil => rw [bytesLess_nil] at h2; cases h2
      | cons z c =>
        rw [bytesLess_cons] at *
        simp only [Bool.or_eq_true, decide_eq_true_eq, Bool.and_eq_true, beq_iff_eq] at *
        rcases h1 with h1 | ⟨rfl, h1⟩
        · rcases h2 with h2 | ⟨rfl, h2⟩
          · exact .inl (u8_trans h1 h2)
          · exact .inl h1
        · rcases h2 with h2 | ⟨rfl, h2⟩
          · exact .inl h2
          · exact .inr ⟨rfl, ih _ _ h1 h2⟩
theorem bytesLess_total : ∀ (a b : List UInt8), bytesLess a b = false → a ≠ b → bytesLess b a = true := by
  intro a
  induction a with
  | nil =>
    intro b h1 h2
    cases b with
    | nil => exact absurd rfl h2
    | cons y b => cases h1
  | cons x a ih =>
    intro b h1 h2
    cases b with
    | nil => rfl
    | cons y b =>
      rw [bytesLess_cons] at *
      simp only [Bool.or_eq_false_iff, decide_eq_false_iff_not, Bool.and_eq_false_iff, beq_eq_false_iff_ne] at h1
      simp only [Bool.or_eq_true, decide_eq_true_eq, Bool.and_eq_true, beq_iff_eq]
      rcases u8_tri x y with h | h | h
      · exact absurd h h1.1
      · subst h
        rcases h1.2 with h3 | h3
        · exact absurd rfl h3
        · exact .inr ⟨rfl, ih _ h3 (fun e => h2 (by rw [e]))⟩
      · exact .inl h
theorem bytesLess_asymm (a b : List UInt8) (h : bytesLess a b = true) : bytesLess b a = false := by
  cases h2 : bytesLess b a with
  | false => rfl
  | true => rw [← bytesLess_irrefl a]; exact (bytesLess_trans a b a h h2).symm
theorem behind_iff (a b : List UInt8) : behind a b = bytesLess b a := by
  unfold behind
  cases h : bytesLess a b with
  | true => rw [bytesLess_asymm _ _ h]; rfl
  | false =>
    by_cases he : a = b
    · subst he; simp [bytesLess_irrefl]
    · rw [bytesLess_total _ _ h he]; simp [he]
theorem behind_ne {a b : List UInt8} (h : behind a b = true) : a ≠ b := by
  rintro rfl; rw [behind_iff, bytesLess_irrefl] at h; cases h

/-- A file: a name and data. -/
structure Fil where
  name : List UInt8
  data : List UInt8
/-- Is the file at place i, behind that with the name last, none of a tree? -/
def filBad (i : Nat) (last : List UInt8) (f : Fil) : Bool := !(isName f.name) || (decide (0 < i) && !(behind f.name last)) || decide (300 < f.data.length) || decide (8 ≤ i)
/-- The name at which a list is no tree. -/
def treeF : Nat → List UInt8 → List Fil → Option (List UInt8)
  | _, _, [] => none
  | i, last, f :: fs => if filBad i last f then some f.name else treeF (i + 1) f.name fs
def treeErr (l : List Fil) : Option (List UInt8) := treeF 0 [] l
/-- The data of the first file of a name. -/
def findF : List Fil → List UInt8 → Option (List UInt8)
  | [], _ => none
  | f :: fs, n => if f.name = n then some f.data else findF fs n
def baseOf (l : List Fil) (n : List UInt8) : List UInt8 := (findF l n).getD []
/-- .. of the last. -/
def lastOf (l : List Fil) (n : List UInt8) : Option (List UInt8) := l.foldl (fun o f => if f.name = n then some f.data else o) none
theorem lastOf_snoc (l : List Fil) (f : Fil) (n : List UInt8) : lastOf (l ++ [f]) n = if f.name = n then some f.data else lastOf l n := by simp [lastOf]
/-- What is known of a tree. -/
structure IsTree (l : List Fil) : Prop where
  ok : ∀ f ∈ l, isName f.name = true ∧ f.data.length ≤ 300
  up : l.Pairwise fun f g => bytesLess f.name g.name = true
  len : l.length ≤ 8
theorem treeF_none : ∀ (l : List Fil) (i : Nat) (last : List UInt8), treeF i last l = none ↔
    (∀ f ∈ l, isName f.name = true ∧ f.data.length ≤ 300) ∧ l.Pairwise (fun f g => bytesLess f.name g.name = true) ∧ (l ≠ [] → i + l.length ≤ 8) ∧ (0 < i → ∀ f ∈ l, bytesLess last f.name = true) := by
  intro l
  induction l with
  | nil => intro i last; simp [treeF]
  | cons f l ih =>
    intro i last
    unfold treeF
    by_cases hb : filBad i last f = true
    · rw [if_pos hb]
      simp only [reduceCtorEq, false_iff]
      rintro ⟨h1, h2, h3, h4⟩
      have h5 := h1 f (by simp)
      have h6 := h3 (by simp)
      unfold filBad at hb
      simp only [List.length_cons] at h6
      simp only [Bool.or_eq_true, Bool.not_eq_true', Bool.and_eq_true, decide_eq_true_eq] at hb
      rcases hb with ((hb | hb) | hb) | hb
      · rw [h5.1] at hb; cases hb
      · rw [behind_iff, h4 hb.1 f (by simp)] at hb; cases hb.2
      · omega
      · omega
    · rw [if_neg hb, ih]
      have hb' : filBad i last f = false := by simpa using hb
      unfold filBad at hb'
      simp only [Bool.or_eq_false_iff, Bool.not_eq_false', Bool.and_eq_false_iff, decide_eq_false_iff_not] at hb'
      obtain ⟨⟨⟨b1, b2⟩, b3⟩, b4⟩ := hb'
      rw [behind_iff] at b2
      constructor
      · rintro ⟨h1, h2, h3, h4⟩
        have h5 := h4 (by omega)
        refine ⟨fun g hg => ?_, List.pairwise_cons.2 ⟨h5, h2⟩, fun _ => ?_, fun hi g hg => ?_⟩
        · rcases List.mem_cons.1 hg with rfl | hg
          · exact ⟨b1, by omega⟩
          · exact h1 g hg
        · by_cases hl : l = []
          · subst hl; simp; omega
          · have := h3 hl; simp; omega
        · have h6 : bytesLess last f.name = true := by
            rcases b2 with b2 | b2
            · omega
            · exact b2
          rcases List.mem_cons.1 hg with rfl | hg
          · exact h6
          · exact bytesLess_trans _ _ _ h6 (h5 g hg)
      · rintro ⟨h1, h2, h3, h4⟩
        rw [List.pairwise_cons] at h2
        refine ⟨fun g hg => h1 g (by simp [hg]), h2.2, fun _ => ?_, fun _ => h2.1⟩
        have := h3 (by simp)
        simp at this; omega
theorem treeErr_none (l : List Fil) : treeErr l = none ↔ IsTree l := by
  unfold treeErr
  rw [treeF_none]
  constructor
  · rintro ⟨h1, h2, h3, -⟩
    refine ⟨h1, h2, ?_⟩
    by_cases hl : l = []
    · subst hl; simp
    · have := h3 hl; omega
  · rintro ⟨h1, h2, h3⟩
    exact ⟨h1, h2, fun _ => by omega, fun h => by omega⟩
theorem bytesLess_ne {a b : List UInt8} (h : bytesLess a b = true) : a ≠ b := by
  rintro rfl; rw [bytesLess_irrefl] at h; cases h
/-- In a tree the first is the last. -/
theorem find_last (l : List Fil) (h : l.Pairwise fun f g => bytesLess f.name g.name = true) (n : List UInt8) : findF l n = lastOf l n := by
  have key : ∀ (l : List Fil) (o : Option (List UInt8)), l.Pairwise (fun f g => bytesLess f.name g.name = true) → l.foldl (fun o f => if f.name = n then some f.data else o) o = (findF l n).or o := by
    intro l
    induction l with
    | nil => intro o _; rfl
    | cons f l ih =>
      intro o h
      rw [List.pairwise_cons] at h
      simp only [List.foldl_cons, findF]
      rw [ih _ h.2]
      by_cases hn : f.name = n
      · rw [if_pos hn, if_pos hn]
        have : findF l n = none := by
          have h1 := h.1
          clear ih h
          induction l with
          | nil => rfl
          | cons g l ih =>
            unfold findF
            have := bytesLess_ne (h1 g (by simp))
            rw [if_neg (fun e => this (hn.trans e.symm)), ih (fun g hg => h1 g (by simp [hg]))]
        rw [this]; rfl
      · rw [if_neg hn, if_neg hn]
  have := key l none h
  unfold lastOf
  rw [this]
  cases findF l n <;> rfl
end Go.Proofs.YtlcdgbhigfgehabGreatDoor
