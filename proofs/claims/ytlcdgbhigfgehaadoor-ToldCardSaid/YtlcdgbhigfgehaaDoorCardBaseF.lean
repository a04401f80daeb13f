/- What the cards want whose rows list the form's error too: what it gives a walk; a world that meets the condition. -/
import Derived.Test.YtlcdgbhigfgehaaDoorCardBase
import Derived.Test.YtlcdgbhigfgehaaDoorErrForm
import Derived.Deep.DeepWitnessRowRef
import Derived.LaidLaws
namespace Go.Proofs.YtlcdgbhigfgehaaDoor
open Go.ChangeShapes Go.WideShapes Go.ChangeAt Go.RowKit

theorem cb_form : Tryd.prog.globalNamed "mirror/batch.errForm" = some 1 := by kernel_rfl
theorem cb_formT : (Tryd.prog.globals[1]?).map (·.type) = some 88 := by kernel_rfl
theorem handle_of_laidF {W : World} (h : laidMetH Tryd.prog [("errors.errorType", Rows.laid_errors_errorType), ("mirror/batch.errForm", Rows.laid_mirror_batch_errForm)] W) : ErrType W := by
  have h' : laidMet Tryd.prog [("mirror/batch.errForm", Rows.laid_mirror_batch_errForm)] W ∧ handlesMet Tryd.prog [("errors.errorType", Rows.laid_errors_errorType)] W := h
  exact handle_of_met (List.mem_singleton.2 rfl) h'.2
theorem form_of_laid {W : World} (h : laidMetH Tryd.prog [("errors.errorType", Rows.laid_errors_errorType), ("mirror/batch.errForm", Rows.laid_mirror_batch_errForm)] W) : ErrForm W := by
  have h' : laidMet Tryd.prog [("mirror/batch.errForm", Rows.laid_mirror_batch_errForm)] W ∧ handlesMet Tryd.prog [("errors.errorType", Rows.laid_errors_errorType)] W := h
  obtain ⟨ps, ⟨g1, t1, cs1, f1, p1, q1, hg1, ht1, hv1, hd1, _, _⟩, _, _⟩ := h'.1
  obtain rfl := Option.some.inj (cb_form.symm.trans hg1)
  obtain rfl := Option.some.inj (cb_formT.symm.trans ht1)
  obtain ⟨_, u, v, hcs, _, _⟩ := iface_of_trod Tryd.underlying88 hd1
  refine ⟨u, v, ?_⟩
  have := World.var?_cell hg1 hv1 0
  rw [Array.eq_one_of_toList hcs] at this
  simpa using this
/-- A world that meets the condition: the settled one, both variables' cells laid, the error behind all. -/
noncomputable def laidWorldF (os : Os) : World :=
  let w0 := laidWorld os
  { w0 with heap := (w0.heap.modify 1 fun
      | .cells _ t frozen => .cells #[.iface 190 (.pointer (some ⟨w0.heap.size, 0, none⟩))] t frozen
      | o => o).push (.cells #[.string ⟨#[110, 111, 32, 98, 97, 116, 99, 104]⟩] 211) }
theorem laidWorldF_met (os : Os) (args : Array Value) : laidMetH Tryd.prog [("errors.errorType", Rows.laid_errors_errorType), ("mirror/batch.errForm", Rows.laid_mirror_batch_errForm)] ((laidWorldF os).forCall (fun _ _ => 0) ⟨#[], args, []⟩).memory :=
  laidMetH_of_parts (laidMet_of_run' 8 (by kernel_rfl) (by kernel_rfl)) (by kernel_rfl)
end Go.Proofs.YtlcdgbhigfgehaaDoor
