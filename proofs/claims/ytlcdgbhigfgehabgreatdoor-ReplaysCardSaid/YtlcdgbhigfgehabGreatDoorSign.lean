/- delta.Sign: the sums of a file's blocks; its fronts in mirror and plain. -/
import Derived.Test.YtlcdgbhigfgehabGreatDoorBlocks
import Derived.Test.YtlcdgbhigfgehabGreatDoorRange
import Derived.Test.YtlcdgbhigfgehabGreatDoorRound
import Derived.Test.YtlcdgbhigfgehabGreatDoorCheck
import Derived.Test.YtlcdgbhigfgehabGreatDoorApply
import Derived.Test.YtlcdgbhigfgehabGreatDoorSumsWalk
import Derived.Test.YtlcdgbhigfgehabGreatDoorPlainApply
namespace Go.Proofs.YtlcdgbhigfgehabGreatDoor
open Go.RowKit Go.Shelf
attribute [local go_sem] Oper.semAt_some
set_option maxRecDepth 100000

/-- The cells of a block's sums. -/
def sumOne (b : List UInt8) : List Value := [.int .i64 b.length, .int .u32 (weakOf b), .int .u64 (dgOf b)]
def sumCells (bs : List (List UInt8)) : List Value := bs.flatMap sumOne
theorem sumCells_snoc (bs : List (List UInt8)) (b : List UInt8) : sumCells (bs ++ [b]) = sumCells bs ++ sumOne b := by simp [sumCells]
@[simp] theorem length_sumCells (bs : List (List UInt8)) : (sumCells bs).length = bs.length * 3 := by
  induction bs with
  | nil => rfl
  | cons b bs ih => simp only [sumCells, List.flatMap_cons, List.length_append] at ih ⊢; rw [ih]; simp [sumOne]; omega
theorem sumCells_get (bs : List (List UInt8)) (i : Nat) (h : i < bs.length) :
    (sumCells bs)[i * 3]? = some (.int .i64 bs[i].length) ∧ (sumCells bs)[i * 3 + 1]? = some (.int .u32 (weakOf bs[i])) ∧ (sumCells bs)[i * 3 + 2]? = some (.int .u64 (dgOf bs[i])) := by
  induction bs generalizing i with
  | nil => simp at h
  | cons b bs ih =>
    cases i with
    | zero => simp [sumCells, sumOne]
    | succ i =>
      have := ih i (by simpa using h)
      have e : sumCells (b :: bs) = .int .i64 b.length :: .int .u32 (weakOf b) :: .int .u64 (dgOf b) :: sumCells bs := by simp [sumCells, sumOne]
      rw [e]
      simp only [Nat.add_mul, Nat.one_mul, List.getElem_cons_succ]
      refine ⟨?_, ?_, ?_⟩
      · rw [show i * 3 + 3 = (i * 3) + 1 + 1 + 1 from rfl]; simpa using this.1
      · rw [show i * 3 + 3 + 1 = (i * 3 + 1) + 1 + 1 + 1 from by omega]; simpa using this.2.1
      · rw [show i * 3 + 3 + 2 = (i * 3 + 2) + 1 + 1 + 1 from by omega]; simpa using this.2.2
/-- append, hidden from the walk, which would lay it open in a region that draws its order. -/
def appendOp (ats : Array TypeId) (ty : TypeId) (args : Array Value) : Sem Value := Builtin.append_ ats ty args
theorem Reads.drew {w : World} {x : Value} {m : Nat} {news : List Value} (h : Reads w x m news) : Reads w.drew x m news := h
theorem append_hide (ats : Array TypeId) (ty : TypeId) (args : Array Value) : Builtin.append_ ats ty args = appendOp ats ty args := rfl
attribute [local go_sem ↓] append_hide
/-- A file's i-th block. -/
def blockAt (l : List UInt8) (blk i : Nat) : List UInt8 := (l.drop (i * blk)).take blk
theorem blocksOf_map (l : List UInt8) (blk : Nat) : blocksOf l blk = (List.finRange (nBlocks l.length blk)).map fun i => blockAt l blk i.1 := by
  unfold blocksOf
  apply List.ext_getElem
  · simp
  · intro i h1 h2; simp [blockAt]

end Go.Proofs.YtlcdgbhigfgehabGreatDoor
