/- Lists of files in memory. -/
import Derived.Test.YtlcdgbhigfgehabGreatDoorTreePure
import Derived.Test.YtlcdgbhigfgehabGreatDoorRoomy
import Derived.Test.YtlcdgbhigfgehabGreatDoorVec
namespace Go.Proofs.YtlcdgbhigfgehabGreatDoor
open Go.RowKit
set_option maxRecDepth 100000

theorem info_fil : (Tryz.prog.info? 37).map (fun i => (i.zero, i.size, i.bytes)) = some (some (.agg #[.string ⟨#[]⟩, .slice none 0 0]), 2, 40) := by kernel_rfl
theorem elt_fil : Elt Tryz.prog 23 37 2 40 := Elt.mk Tryz.underlying23 info_fil rfl
/-- A file in memory: what it is, its data's slice. -/
def filRow (x : Fil × Value) : List Value := [.string ⟨x.1.name.toArray⟩, x.2]
def filCells (l : List (Fil × Value)) : List Value := l.flatMap filRow
theorem filCells_snoc (l : List (Fil × Value)) (e : Fil × Value) : filCells (l ++ [e]) = filCells l ++ filRow e := by simp [filCells]
@[simp] theorem length_filCells (l : List (Fil × Value)) : (filCells l).length = l.length * 2 := by
  induction l with
  | nil => rfl
  | cons e l ih => simp [filCells, filRow] at ih ⊢; omega
theorem filCells_get (l : List (Fil × Value)) (i : Nat) (h : i < l.length) :
    (filCells l)[i * 2]? = some (.string ⟨l[i].1.name.toArray⟩) ∧ (filCells l)[i * 2 + 1]? = some l[i].2 := by
  induction l generalizing i with
  | nil => simp at h
  | cons p l ih =>
    have hc : filCells (p :: l) = .string ⟨p.1.name.toArray⟩ :: p.2 :: filCells l := rfl
    rw [hc]
    cases i with
    | zero => simp
    | succ i =>
      have := ih i (by simpa using h)
      simp only [Nat.add_mul, Nat.one_mul, List.getElem_cons_succ]
      refine ⟨?_, ?_⟩
      · rw [show i * 2 + 2 = (i * 2) + 1 + 1 from rfl]; simpa using this.1
      · rw [show i * 2 + 2 + 1 = (i * 2 + 1) + 1 + 1 from by omega]; simpa using this.2
/-- v is a slice of these files, each one's data bytes that read so; all lies in blocks from B on. -/
structure Fils (w : World) (B : Nat) (v : Value) (l : List (Fil × Value)) : Prop where
  vec : Vec w B 37 2 v l.length (filCells l)
  data : ∀ p ∈ l, IsB w p.2 p.1.data
  from_ : ∀ p ∈ l, ∀ b, p.2.ownBlock = some b → B ≤ b ∧ b < w.heap.size
section
variable {w w1 : World} {S : Nat → Prop} {B : Nat} {v : Value} {l : List (Fil × Value)}
theorem Fils.nil (w : World) (B : Nat) : Fils w B (.slice none 0 0) [] := ⟨Vec.nil _ _ _ _, fun _ h => by simp at h, fun _ h => by simp at h⟩
theorem Fils.keep (h : Fils w B v l) (k : Fr S w w1) (hv : ∀ b, v.ownBlock = some b → ¬ S b) (hd : ∀ p ∈ l, ∀ b, p.2.ownBlock = some b → ¬ S b) : Fils w1 B v l :=
  ⟨h.vec.keep k hv, fun p hp => (h.data p hp).keep k (hd p hp), fun p hp b hb => ⟨(h.from_ p hp b hb).1, by have := (h.from_ p hp b hb).2; have := k.size; omega⟩⟩
theorem Fils.keep0 (h : Fils w B v l) (k : Fr (fun _ => False) w w1) : Fils w1 B v l := h.keep k (fun _ _ h => h) (fun _ _ _ _ h => h)
theorem Fils.above (h : Fils w B v l) (k : Fr S w w1) {N : Nat} (hN : w.heap.size ≤ N) (hS : ∀ b, S b → N ≤ b) : Fils w1 B v l :=
  h.keep k (fun b hb hs => by have := (h.vec.lt b hb).2; have := hS b hs; omega) (fun p hp b hb hs => by have := (h.from_ p hp b hb).2; have := hS b hs; omega)
/-- The i-th file's cells. -/
theorem Fils.get (h : Fils w B v l) (i : Nat) (hi : i < l.length) : ∃ g cap, v = .slice (some ⟨g, 0, none⟩) l.length cap ∧ w.cell? ⟨g, i * 2, none⟩ = some (.string ⟨l[i].1.name.toArray⟩) ∧ w.cell? ⟨g, i * 2 + 1, none⟩ = some l[i].2 ∧ g < w.heap.size := by
  obtain ⟨g, cap, rest, hq, -, ho, -⟩ := h.vec.row (by omega)
  have hg := filCells_get l i hi
  refine ⟨g, cap, hq, ho.cell ?_, ho.cell ?_, ho.lt⟩
  · rw [List.getElem?_append_left (by simp; omega)]; exact hg.1
  · rw [List.getElem?_append_left (by simp; omega)]; exact hg.2
end
theorem fil_one (s : ByteArray) (a : Option Addr) (n m : Nat) : ∀ u ∈ [Value.string s, .slice a n m], u.oneCell' = true := by
  intro u hu
  simp at hu
  rcases hu with rfl | rfl <;> rfl
theorem info_ref : (Tryz.prog.info? 188).map (fun i => (i.zero, i.size, i.bytes)) = some (some (.agg #[.string ⟨#[]⟩, .string ⟨#[]⟩]), 2, 32) := by kernel_rfl
theorem elt_ref : Elt Tryz.prog 74 188 2 32 := Elt.mk Tryz.underlying74 info_ref rfl
/-- A file of the document's in memory. -/
def refRow (x : Fil) : List Value := [.string ⟨x.name.toArray⟩, .string ⟨x.data.toArray⟩]
def refCells (l : List Fil) : List Value := l.flatMap refRow
theorem refCells_snoc (l : List Fil) (e : Fil) : refCells (l ++ [e]) = refCells l ++ refRow e := by simp [refCells]
@[simp] theorem length_refCells (l : List Fil) : (refCells l).length = l.length * 2 := by
  induction l with
  | nil => rfl
  | cons e l ih => simp [refCells, refRow] at ih ⊢; omega
theorem refCells_get (l : List Fil) (i : Nat) (h : i < l.length) :
    (refCells l)[i * 2]? = some (.string ⟨l[i].name.toArray⟩) ∧ (refCells l)[i * 2 + 1]? = some (.string ⟨l[i].data.toArray⟩) := by
  induction l generalizing i with
  | nil => simp at h
  | cons p l ih =>
    have hc : refCells (p :: l) = .string ⟨p.name.toArray⟩ :: .string ⟨p.data.toArray⟩ :: refCells l := rfl
    rw [hc]
    cases i with
    | zero => simp
    | succ i =>
      have := ih i (by simpa using h)
      simp only [Nat.add_mul, Nat.one_mul, List.getElem_cons_succ]
      refine ⟨?_, ?_⟩
      · rw [show i * 2 + 2 = (i * 2) + 1 + 1 from rfl]; simpa using this.1
      · rw [show i * 2 + 2 + 1 = (i * 2 + 1) + 1 + 1 from by omega]; simpa using this.2
/-- v is a slice of these files of the document's. -/
def Refs (w : World) (B : Nat) (v : Value) (l : List Fil) : Prop := Vec w B 188 2 v l.length (refCells l)
theorem Refs.get {w : World} {B : Nat} {v : Value} {l : List Fil} (h : Refs w B v l) (i : Nat) (hi : i < l.length) : ∃ g cap, v = .slice (some ⟨g, 0, none⟩) l.length cap ∧ w.cell? ⟨g, i * 2, none⟩ = some (.string ⟨l[i].name.toArray⟩) ∧ w.cell? ⟨g, i * 2 + 1, none⟩ = some (.string ⟨l[i].data.toArray⟩) ∧ g < w.heap.size := by
  obtain ⟨g, cap, rest, hq, -, ho, -⟩ := Vec.row h (by omega)
  have hg := refCells_get l i hi
  refine ⟨g, cap, hq, ho.cell ?_, ho.cell ?_, ho.lt⟩
  · rw [List.getElem?_append_left (by simp; omega)]; exact hg.1
  · rw [List.getElem?_append_left (by simp; omega)]; exact hg.2
theorem ref_one (s t : ByteArray) : ∀ u ∈ [Value.string s, .string t], u.oneCell' = true := by
  intro u hu
  simp at hu
  rcases hu with rfl | rfl <;> rfl
end Go.Proofs.YtlcdgbhigfgehabGreatDoor
