/- What every card of this seat wants: closed facts, and what the listed variable errors.errorType gives a walk (after the guide's worked toy toyas). -/
import Derived.Test.YtlcdgbhigfgehaaDoorErrors
import Derived.Test.YtlcdgbhigfgehaaDoorCards
import Derived.Test.YtlcdgbhigfgehaaDoorTie
import Derived.ProofKit
import Derived.OpenShut
import Derived.ShutString
import Derived.ChangeOld
import Derived.LaidHandle
import Derived.Deep.DeepHandedRow
import Derived.SevenTiedAt
namespace Go.Proofs.YtlcdgbhigfgehaaDoor
open Go.ChangeShapes Go.WideShapes Go.ChangeAt Go.RowKit

theorem cardOwn : ownKnob Tryd.prog.godebug = none := by kernel_rfl
theorem cardLaidOut : laidOutB Tryd.prog = true := by kernel_rfl
theorem cb_et : Tryd.prog.globalNamed "errors.errorType" = some 0 := by kernel_rfl
theorem cb_rt : (Tryd.prog.cutTypes.find? (·.1 == "internal/reflectlite.rtype")).map (·.2) = some 164 := by kernel_rfl
theorem cb_oneRow : ((List.range 222).filter fun t => Tryd.prog.rowNamed t [101, 114, 114, 111, 114]) = [88] := by kernel_rfl
theorem cb_size : Tryd.prog.types.size = 222 := by kernel_rfl
theorem cb_handle : typeHandle Tryd.prog 88 = .pointer (some ⟨2, 88, none⟩) := by kernel_rfl
theorem handle_of_met {W : World} {l : List (String × DataW Unit)} (hx : ("errors.errorType", Rows.laid_errors_errorType) ∈ l) (h' : handlesMet Tryd.prog l W) : ErrType W := by
  obtain ⟨name, u, ty, e1, e2, e3, e4, e5⟩ := h' _ hx
  have en : name = [101, 114, 114, 111, 114] := (Option.some.inj e1).symm
  subst en
  obtain rfl := Option.some.inj (cb_rt.symm.trans e2)
  have hm : ty ∈ (List.range 222).filter fun t => Tryd.prog.rowNamed t [101, 114, 114, 111, 114] := List.mem_filter.2 ⟨List.mem_range.2 (by rw [← cb_size]; exact e3), e4⟩
  rw [cb_oneRow] at hm
  obtain rfl := List.mem_singleton.1 hm
  rw [cb_handle] at e5
  simpa [ErrType] using World.var?_cell cb_et e5 0
theorem handle_of_laid {W : World} (h : laidMetH Tryd.prog [("errors.errorType", Rows.laid_errors_errorType)] W) : ErrType W := by
  have h' : laidMet Tryd.prog [] W ∧ handlesMet Tryd.prog [("errors.errorType", Rows.laid_errors_errorType)] W := h
  exact handle_of_met (List.mem_singleton.2 rfl) h'.2

/-- A world that meets the condition: the settled one, the variable's cell laid. -/
noncomputable def laidWorld (os : Os) : World :=
  let w0 := World.holding Tryd.prog os ⟨#[], #[], []⟩
  { w0 with heap := w0.heap.modify 0 fun
      | .cells _ t frozen => .cells #[.iface 164 (.agg #[.pointer (some ⟨2, 88, none⟩)])] t frozen
      | o => o }
theorem laidWorld_met (os : Os) (args : Array Value) : laidMetH Tryd.prog [("errors.errorType", Rows.laid_errors_errorType)] ((laidWorld os).forCall (fun _ _ => 0) ⟨#[], args, []⟩).memory :=
  laidMetH_of_parts (laidMet_nil _ _) (by kernel_rfl)
end Go.Proofs.YtlcdgbhigfgehaaDoor
