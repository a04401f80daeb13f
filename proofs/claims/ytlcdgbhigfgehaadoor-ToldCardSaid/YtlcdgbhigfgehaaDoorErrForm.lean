/- The form's error, as it lies there when the call begins. -/
import Derived.Test.YtlcdgbhigfgehaaDoorMem
namespace Go.Proofs.YtlcdgbhigfgehaaDoor
open Go.RowKit
/-- The form's error as it lies there. -/
def ErrForm (w : World) : Prop := ∃ T u, w.cell? ⟨1, 0, none⟩ = some (.iface T u)
theorem ErrForm.keep {w w1 : World} (h : ErrForm w) (k : Fr (fun _ => False) w w1) : ErrForm w1 := by
  obtain ⟨T, u, h⟩ := h
  exact ⟨T, u, k.cell h id⟩
end Go.Proofs.YtlcdgbhigfgehaaDoor
