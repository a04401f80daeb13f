/-
  DERIVED. GIVEN WITH THE SEED: THE CARDS: each row of YtlcdgbhigfgehaaDoorRows.lean that lists a variable, with what it lists TIED to the program's text (the seventh form; the later family's looks); each row that meets fmt, with fmt's text TOLD by the authors' own Lean function (tested against real Go, not proved from fmt's source: count such statements apart). THE CARD IS WHAT COUNTS. Prove the row's statement (the work); the ties are given (YtlcdgbhigfgehaaDoorTie.lean); close each card by the builder's one call (the guide's Derived/Test/ToyasCard.lean, 'card_holds'). Laid BY PROGRAM, IN A SANDBOX (cutbox-door.mjs). By AI agents, Wed Nov 11 2026. No macro, syntax, notation, axiom, sorry.
-/
import Derived.Test.YtlcdgbhigfgehaaDoorRows
import GoSem.ClaimSeven
namespace Go.Proofs.YtlcdgbhigfgehaaDoor
namespace Rows

/-- THE TIED CARD OF 'mirrorlaw.Names'. -/
def namesCard : Claim7 := { stood := { row := namesRow, standIns := [], harness := (true, "225ee2595a4c8f7a7f0ef290475f3075cefc007f21d01dcd392eed40738321dd"), looks := true }, kinds := [], alts := [], laidByText := true, laidKinds := [.handle], laidTests := true, laidLooks := .later }
def NamesCardSaid : Prop := Claim7.holds Tryd.pinned (.plain (OpenSpec.ofChange namesSpec)) namesCard

/-- THE TIED CARD OF 'mirrorlaw.Applies'. -/
def appliesCard : Claim7 := { stood := { row := appliesRow, standIns := [], harness := (true, "225ee2595a4c8f7a7f0ef290475f3075cefc007f21d01dcd392eed40738321dd"), looks := true }, kinds := [], alts := [], laidByText := true, laidKinds := [.handle], laidTests := true, laidLooks := .later }
def AppliesCardSaid : Prop := Claim7.holds Tryd.pinned (.plain (OpenSpec.ofChange appliesSpec)) appliesCard

/-- THE TIED CARD OF 'mirrorlaw.Signs'. -/
def signsCard : Claim7 := { stood := { row := signsRow, standIns := [], harness := (true, "225ee2595a4c8f7a7f0ef290475f3075cefc007f21d01dcd392eed40738321dd"), looks := true }, kinds := [], alts := [], laidByText := true, laidKinds := [.handle], laidTests := true, laidLooks := .later }
def SignsCardSaid : Prop := Claim7.holds Tryd.pinned (.plain (OpenSpec.ofChange signsSpec)) signsCard

/-- THE TIED CARD OF 'mirrorlaw.Reads'. -/
def readsCard : Claim7 := { stood := { row := readsRow, standIns := [], harness := (true, "225ee2595a4c8f7a7f0ef290475f3075cefc007f21d01dcd392eed40738321dd"), looks := true }, kinds := [], alts := [], laidByText := true, laidKinds := [.handle, .sentinel], laidTests := true, laidLooks := .later }
def ReadsCardSaid : Prop := Claim7.holds Tryd.pinned (.plain (OpenSpec.ofChange readsSpec)) readsCard

/-- THE TIED CARD OF 'mirrorlaw.Diffs'. -/
def diffsCard : Claim7 := { stood := { row := diffsRow, standIns := [], harness := (true, "225ee2595a4c8f7a7f0ef290475f3075cefc007f21d01dcd392eed40738321dd"), looks := true }, kinds := [], alts := [], laidByText := true, laidKinds := [.handle], laidTests := true, laidLooks := .later }
def DiffsCardSaid : Prop := Claim7.holds Tryd.pinned (.plain (OpenSpec.ofChange diffsSpec)) diffsCard

/-- THE TIED CARD OF 'mirrorkeep.Rebuilt'. -/
def rebuiltCard : Claim7 := { stood := { row := rebuiltRow, standIns := [], harness := (true, "225ee2595a4c8f7a7f0ef290475f3075cefc007f21d01dcd392eed40738321dd"), looks := true }, kinds := [], alts := [], laidByText := true, laidKinds := [.handle], laidTests := true, laidLooks := .later }
def RebuiltCardSaid : Prop := Claim7.holds Tryd.pinned (.plain (OpenSpec.ofChange rebuiltSpec)) rebuiltCard

/-- THE TIED CARD OF 'mirrorlaw.Records'. -/
def recordsCard : Claim7 := { stood := { row := recordsRow, standIns := [], harness := (true, "225ee2595a4c8f7a7f0ef290475f3075cefc007f21d01dcd392eed40738321dd"), looks := true }, kinds := [], alts := [], laidByText := true, laidKinds := [.handle], laidTests := true, laidLooks := .later }
def RecordsCardSaid : Prop := Claim7.holds Tryd.pinned (.plain (OpenSpec.ofChange recordsSpec)) recordsCard

/-- THE TIED CARD OF 'mirrorkeep.Told'. -/
def toldCard : Claim7 := { stood := { row := toldRow, standIns := [], harness := (true, "225ee2595a4c8f7a7f0ef290475f3075cefc007f21d01dcd392eed40738321dd"), looks := true }, kinds := [], alts := [], laidByText := true, laidKinds := [.handle, .sentinel], laidTests := true, laidLooks := .later }
def ToldCardSaid : Prop := Claim7.holds Tryd.pinned (.plain (OpenSpec.ofChange toldSpec)) toldCard

/-- THE SECOND FORM's CARD OF 'mirrorlaw.Names'. -/
def namesUptoCard : Claim7 := { stood := { row := namesUptoRow, standIns := [], harness := (true, "225ee2595a4c8f7a7f0ef290475f3075cefc007f21d01dcd392eed40738321dd"), looks := true }, kinds := [], alts := [], laidByText := true, laidKinds := [.handle], laidTests := true, laidLooks := .later }
def NamesUptoCardSaid : Prop := Claim7.holds Tryd.pinned (.plain (OpenSpec.upto namesSpec)) namesUptoCard

/-- THE SECOND FORM's CARD OF 'mirrorlaw.Applies'. -/
def appliesUptoCard : Claim7 := { stood := { row := appliesUptoRow, standIns := [], harness := (true, "225ee2595a4c8f7a7f0ef290475f3075cefc007f21d01dcd392eed40738321dd"), looks := true }, kinds := [], alts := [], laidByText := true, laidKinds := [.handle], laidTests := true, laidLooks := .later }
def AppliesUptoCardSaid : Prop := Claim7.holds Tryd.pinned (.plain (OpenSpec.upto appliesSpec)) appliesUptoCard

/-- THE SECOND FORM's CARD OF 'mirrorlaw.Signs'. -/
def signsUptoCard : Claim7 := { stood := { row := signsUptoRow, standIns := [], harness := (true, "225ee2595a4c8f7a7f0ef290475f3075cefc007f21d01dcd392eed40738321dd"), looks := true }, kinds := [], alts := [], laidByText := true, laidKinds := [.handle], laidTests := true, laidLooks := .later }
def SignsUptoCardSaid : Prop := Claim7.holds Tryd.pinned (.plain (OpenSpec.upto signsSpec)) signsUptoCard

/-- THE SECOND FORM's CARD OF 'mirrorlaw.Reads'. -/
def readsUptoCard : Claim7 := { stood := { row := readsUptoRow, standIns := [], harness := (true, "225ee2595a4c8f7a7f0ef290475f3075cefc007f21d01dcd392eed40738321dd"), looks := true }, kinds := [], alts := [], laidByText := true, laidKinds := [.handle, .sentinel], laidTests := true, laidLooks := .later }
def ReadsUptoCardSaid : Prop := Claim7.holds Tryd.pinned (.plain (OpenSpec.upto readsSpec)) readsUptoCard

/-- THE SECOND FORM's CARD OF 'mirrorlaw.Diffs'. -/
def diffsUptoCard : Claim7 := { stood := { row := diffsUptoRow, standIns := [], harness := (true, "225ee2595a4c8f7a7f0ef290475f3075cefc007f21d01dcd392eed40738321dd"), looks := true }, kinds := [], alts := [], laidByText := true, laidKinds := [.handle], laidTests := true, laidLooks := .later }
def DiffsUptoCardSaid : Prop := Claim7.holds Tryd.pinned (.plain (OpenSpec.upto diffsSpec)) diffsUptoCard

/-- THE SECOND FORM's CARD OF 'mirrorkeep.Rebuilt'. -/
def rebuiltUptoCard : Claim7 := { stood := { row := rebuiltUptoRow, standIns := [], harness := (true, "225ee2595a4c8f7a7f0ef290475f3075cefc007f21d01dcd392eed40738321dd"), looks := true }, kinds := [], alts := [], laidByText := true, laidKinds := [.handle], laidTests := true, laidLooks := .later }
def RebuiltUptoCardSaid : Prop := Claim7.holds Tryd.pinned (.plain (OpenSpec.upto rebuiltSpec)) rebuiltUptoCard

/-- THE SECOND FORM's CARD OF 'mirrorlaw.Records'. -/
def recordsUptoCard : Claim7 := { stood := { row := recordsUptoRow, standIns := [], harness := (true, "225ee2595a4c8f7a7f0ef290475f3075cefc007f21d01dcd392eed40738321dd"), looks := true }, kinds := [], alts := [], laidByText := true, laidKinds := [.handle], laidTests := true, laidLooks := .later }
def RecordsUptoCardSaid : Prop := Claim7.holds Tryd.pinned (.plain (OpenSpec.upto recordsSpec)) recordsUptoCard

/-- THE SECOND FORM's CARD OF 'mirrorkeep.Told'. -/
def toldUptoCard : Claim7 := { stood := { row := toldUptoRow, standIns := [], harness := (true, "225ee2595a4c8f7a7f0ef290475f3075cefc007f21d01dcd392eed40738321dd"), looks := true }, kinds := [], alts := [], laidByText := true, laidKinds := [.handle, .sentinel], laidTests := true, laidLooks := .later }
def ToldUptoCardSaid : Prop := Claim7.holds Tryd.pinned (.plain (OpenSpec.upto toldSpec)) toldUptoCard
end Rows
end Go.Proofs.YtlcdgbhigfgehaaDoor
