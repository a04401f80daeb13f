/-
  DERIVED. GIVEN WITH THE SEED: THE CARDS: each row of YtlcdgbhigfgehabGreatDoorRows.lean that lists a variable, with what it lists TIED to the program's text (the seventh form; the later family's looks); each row that meets fmt, with fmt's text TOLD by the authors' own Lean function (tested against real Go, not proved from fmt's source: count such statements apart). THE CARD IS WHAT COUNTS. Prove the row's statement (the work); the ties are given (YtlcdgbhigfgehabGreatDoorTie.lean); close each card by the builder's one call (the guide's Derived/Test/ToyasCard.lean, 'card_holds'). Laid BY PROGRAM, IN A SANDBOX (cutbox-door.mjs). By AI agents, Wed Nov 11 2026. No macro, syntax, notation, axiom, sorry.
-/
import Derived.Test.YtlcdgbhigfgehabGreatDoorRows
import GoSem.ClaimSeven
namespace Go.Proofs.YtlcdgbhigfgehabGreatDoor
namespace Rows

/-- THE TIED CARD OF 'mirrorkeep.Brought'. -/
def broughtCard : Claim7 := { stood := { row := broughtRow, standIns := [], harness := (true, "b41915aff0d7f48650c00177a0ad2f02f5efb2015fd88e32e1d25f0e20d6ffae"), looks := true }, kinds := [], alts := [], goes := true, laidByText := true, laidKinds := [.handle, .sentinel], laidTests := true, laidLooks := .later }
def BroughtCardSaid : Prop := Claim7.holds Tryz.pinned (.plain (OpenSpec.ofChange broughtSpec)) broughtCard

/-- THE TIED CARD OF 'mirrorkeep.Broken'. -/
def brokenCard : Claim7 := { stood := { row := brokenRow, standIns := [], harness := (true, "b41915aff0d7f48650c00177a0ad2f02f5efb2015fd88e32e1d25f0e20d6ffae"), looks := true }, kinds := [], alts := [], goes := true, laidByText := true, laidKinds := [.handle, .sentinel], laidTests := true, laidLooks := .later }
def BrokenCardSaid : Prop := Claim7.holds Tryz.pinned (.plain (OpenSpec.ofChange brokenSpec)) brokenCard

/-- THE TIED CARD OF 'mirrorkeep.Filled'. -/
def filledCard : Claim7 := { stood := { row := filledRow, standIns := [], harness := (true, "b41915aff0d7f48650c00177a0ad2f02f5efb2015fd88e32e1d25f0e20d6ffae"), looks := true }, kinds := [], alts := [], goes := true, laidByText := true, laidKinds := [.handle, .sentinel], laidTests := true, laidLooks := .later }
def FilledCardSaid : Prop := Claim7.holds Tryz.pinned (.plain (OpenSpec.ofChange filledSpec)) filledCard

/-- THE TIED CARD OF 'mirrorkeep.Torn'. -/
def tornCard : Claim7 := { stood := { row := tornRow, standIns := [], harness := (true, "b41915aff0d7f48650c00177a0ad2f02f5efb2015fd88e32e1d25f0e20d6ffae"), looks := true }, kinds := [], alts := [], goes := true, laidByText := true, laidKinds := [.handle, .sentinel], laidTests := true, laidLooks := .later }
def TornCardSaid : Prop := Claim7.holds Tryz.pinned (.plain (OpenSpec.ofChange tornSpec)) tornCard

/-- THE TIED CARD OF 'mirrorkeep.Together'. -/
def togetherCard : Claim7 := { stood := { row := togetherRow, standIns := [], harness := (true, "b41915aff0d7f48650c00177a0ad2f02f5efb2015fd88e32e1d25f0e20d6ffae"), looks := true }, kinds := [], alts := [], goes := true, laidByText := true, laidKinds := [.handle, .sentinel], laidTests := true, laidLooks := .later }
def TogetherCardSaid : Prop := Claim7.holds Tryz.pinned (.plain (OpenSpec.ofChange togetherSpec)) togetherCard

/-- THE TIED CARD OF 'mirrorlaw.Replays'. -/
def replaysCard : Claim7 := { stood := { row := replaysRow, standIns := [], harness := (true, "b41915aff0d7f48650c00177a0ad2f02f5efb2015fd88e32e1d25f0e20d6ffae"), looks := true }, kinds := [], alts := [], goes := true, laidByText := true, laidKinds := [.handle, .sentinel], laidTests := true, laidLooks := .later }
def ReplaysCardSaid : Prop := Claim7.holds Tryz.pinned (.plain (OpenSpec.ofChange replaysSpec)) replaysCard
end Rows
end Go.Proofs.YtlcdgbhigfgehabGreatDoor
