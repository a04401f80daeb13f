/- Tokens in memory: a slice of tokens that a call made, each one's data a slice of bytes. -/
import Derived.Test.YtlcdgbhigfgehabGreatDoorVec
import Derived.Test.YtlcdgbhigfgehabGreatDoorTokPure
import Derived.Test.YtlcdgbhigfgehabGreatDoorRows
namespace Go.Proofs.YtlcdgbhigfgehabGreatDoor
open Go.RowKit

theorem info_tok : (Tryz.prog.info? 171).map (fun i => (i.zero, i.size, i.bytes)) = some (some (.agg #[.int .i64 0, .int .i64 0, .slice none 0 0]), 3, 40) := by kernel_rfl
theorem elt_tok : Elt Tryz.prog 153 171 3 40 := Elt.mk Tryz.underlying153 info_tok rfl

/-- The cells of tokens, each with its data's slice. -/
def tokCells : List (Tok × Value) → List Value
  | [] => []
  | p :: l => .int .i64 p.1.b :: .int .i64 p.1.c :: p.2 :: tokCells l
theorem tokCells_append (l m : List (Tok × Value)) : tokCells (l ++ m) = tokCells l ++ tokCells m := by
  induction l with
  | nil => rfl
  | cons p l ih => simp [tokCells, ih]
@[simp] theorem length_tokCells (l : List (Tok × Value)) : (tokCells l).length = l.length * 3 := by
  induction l with
  | nil => rfl
  | cons p l ih => simp [tokCells, ih]; omega
theorem tokCells_get (l : List (Tok × Value)) (i : Nat) (h : i < l.length) :
    (tokCells l)[i * 3]? = some (.int .i64 l[i].1.b) ∧ (tokCells l)[i * 3 + 1]? = some (.int .i64 l[i].1.c) ∧ (tokCells l)[i * 3 + 2]? = some l[i].2 := by
  induction l generalizing i with
  | nil => simp at h
  | cons p l ih =>
    cases i with
    | zero => simp [tokCells]
    | succ i =>
      have := ih i (by simpa using h)
      simp only [tokCells, Nat.add_mul, Nat.one_mul, List.getElem_cons_succ]
      refine ⟨?_, ?_, ?_⟩
      · rw [show i * 3 + 3 = (i * 3) + 1 + 1 + 1 from rfl]; simpa using this.1
      · rw [show i * 3 + 3 + 1 = (i * 3 + 1) + 1 + 1 + 1 from by omega]; simpa using this.2.1
      · rw [show i * 3 + 3 + 2 = (i * 3 + 2) + 1 + 1 + 1 from by omega]; simpa using this.2.2

theorem tok_one (b c : Int) (a : Option Addr) (n m : Nat) : ∀ u ∈ [Value.int .i64 b, .int .i64 c, .slice a n m], u.oneCell' = true := by
  intro u hu
  simp at hu
  rcases hu with rfl | rfl | rfl <;> rfl
/-- v is a slice of these tokens; its row and their data lie in blocks from B on. -/
structure Toks (w : World) (B : Nat) (v : Value) (l : List (Tok × Value)) : Prop where
  vec : Vec w B 171 3 v l.length (tokCells l)
  data : ∀ p ∈ l, IsB w p.2 p.1.d
  from_ : ∀ p ∈ l, ∀ k, p.2.ownBlock = some k → B ≤ k
section
variable {w w1 : World} {S : Nat → Prop} {B : Nat} {v : Value} {l : List (Tok × Value)}
theorem Toks.nil (w : World) (B : Nat) : Toks w B (.slice none 0 0) [] := ⟨Vec.nil _ _ _ _, fun _ h => by simp at h, fun _ h => by simp at h⟩
theorem Toks.keep (h : Toks w B v l) (k : Fr S w w1) (hv : ∀ b, v.ownBlock = some b → ¬ S b) (hd : ∀ p ∈ l, ∀ b, p.2.ownBlock = some b → ¬ S b) : Toks w1 B v l :=
  ⟨h.vec.keep k hv, fun p hp => (h.data p hp).keep k (hd p hp), h.from_⟩
theorem Toks.keep0 (h : Toks w B v l) (k : Fr (fun _ => False) w w1) : Toks w1 B v l := h.keep k (fun _ _ h => h) (fun _ _ _ _ h => h)
theorem Toks.below (h : Toks w B v l) (k : Fr S w w1) (hS : ∀ b, S b → b < B) : Toks w1 B v l :=
  h.keep k (fun b hb hs => by have := (h.vec.lt b hb).1; have := hS b hs; omega) (fun p hp b hb hs => by have := h.from_ p hp b hb; have := hS b hs; omega)
/-- The row is none of the data's blocks. -/
theorem Toks.apart (h : Toks w B v l) : ∀ p ∈ l, ∀ b, p.2.ownBlock = some b → v.ownBlock ≠ some b := by
  intro p hp b hb hv
  rcases h.vec.2 with ⟨rfl, _⟩ | ⟨g, cap, rest, rfl, _, ho, _⟩
  · simp [Value.ownBlock] at hv
  · simp [Value.ownBlock] at hv
    subst hv
    exact (h.data p hp).apart ho (by decide) hb
/-- One token more. -/
theorem Toks.snoc {v' : Value} {t : Tok} {dv : Value} (h : Toks w B v l) (hv : Vec w1 B 171 3 v' (l.length + 1) (tokCells l ++ [.int .i64 t.b, .int .i64 t.c, dv])) (k : Fr (fun k => v.ownBlock = some k) w w1)
    (hd : IsB w1 dv t.d) (hB : ∀ k, dv.ownBlock = some k → B ≤ k) : Toks w1 B v' (l ++ [(t, dv)]) := by
  refine ⟨?_, ?_, ?_⟩
  · rw [List.length_append, tokCells_append]; exact hv
  · intro p hp
    rcases List.mem_append.1 hp with hp | hp
    · exact (h.data p hp).keep k (fun b hb hs => h.apart p hp b hb hs)
    · simp at hp; subst hp; exact hd
  · intro p hp
    rcases List.mem_append.1 hp with hp | hp
    · exact h.from_ p hp
    · simp at hp; subst hp; exact hB
/-- The i-th token's cells. -/
theorem Toks.get (h : Toks w B v l) (i : Nat) (hi : i < l.length) : ∃ g cap, v = .slice (some ⟨g, 0, none⟩) l.length cap ∧ w.cell? ⟨g, i * 3, none⟩ = some (.int .i64 l[i].1.b) ∧
    w.cell? ⟨g, i * 3 + 1, none⟩ = some (.int .i64 l[i].1.c) ∧ w.cell? ⟨g, i * 3 + 2, none⟩ = some l[i].2 := by
  obtain ⟨g, cap, rest, rfl, _, ho, _⟩ := h.vec.row (by omega)
  have hg := tokCells_get l i hi
  refine ⟨g, cap, rfl, ho.cell ?_, ho.cell ?_, ho.cell ?_⟩
  all_goals rw [List.getElem?_append_left (by simp; omega)]
  · exact hg.1
  · exact hg.2.1
  · exact hg.2.2
end
end Go.Proofs.YtlcdgbhigfgehabGreatDoor
