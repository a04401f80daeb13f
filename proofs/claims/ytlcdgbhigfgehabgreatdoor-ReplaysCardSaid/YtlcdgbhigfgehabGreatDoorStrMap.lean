/- Maps whose keys are texts; the map of a tree's data by names. -/
import Derived.Test.YtlcdgbhigfgehabGreatDoorVMap
import Derived.Test.YtlcdgbhigfgehabGreatDoorRoomy
import Derived.StringKeys
import Derived.WideKeyEntry
import Derived.Maps.Keyed
namespace Go.Proofs.YtlcdgbhigfgehabGreatDoor
open Go.RowKit Go.Maps
set_option maxRecDepth 100000

theorem str_keyed : Keyed Tryz.prog 9 := string_keyed Tryz.underlying9
theorem keyOf_name (nm : List UInt8) (h : nm.length ≤ 1000) : ∃ kl, keyOf Tryz.prog 9 (.string ⟨nm.toArray⟩) = some kl :=
  ⟨_, Go.WideMaps.keyOf_string_mk Tryz.underlying9 (by unfold maxLen; show nm.toArray.size ≤ _; simp; omega)⟩
end Go.Proofs.YtlcdgbhigfgehabGreatDoor
