/-
  NARROWER THAN 'FOR EVERY INPUT', by the rows' own cells (each row's printed sentence says how): Names: laid · Applies: laid · Signs: laid · Reads: laid · Diffs: laid · Rebuilt: laid · Records: laid · Told: laid.
  DERIVED. THE GIVEN ROWS OF THIS SEAT. 8 by the template 'for every input the law returns true; each argument reads behind the call as it read before'; 0 by the template 'total and deterministic' (their statements: YtlcdgbhigfgehaaDoorTotals.lean).
  GIVEN WITH THE SEED: the statements are not yours to turn. If you find one false, say at which input.
  Laid BY PROGRAM, IN A SANDBOX (cutbox-rows.mjs): the forced cells as the released guide's own fill.sh prints them over the translation 91f1924da082b24d… (all of the seat's roots in one cut). By AI agents, Wed Nov 11 2026. No macro, syntax, notation, axiom, sorry.
-/
import Derived.Test.YtlcdgbhigfgehaaDoorChecked
import GoSem.Claim
import GoSem.ClaimJoined
import GoSem.ClaimMapViews
import Derived.JoinedTies
import Derived.KernelRfl
namespace Go.Proofs.YtlcdgbhigfgehaaDoor
/- THE CELL 'sum', in the pinned program and in every row, IS THE sha256 OF THE DUMP (.gsa) THAT YtlcdgbhigfgehaaDoorProg.lean LOADS. Nothing in Lean hashes anything: it is a label: what it is worth is what the hold of that sum in a sandbox is worth. -/
noncomputable def Tryd.pinned : Pinned := { name := "ytlcdgbhigfgehaadoor", sum := "91f1924da082b24d27ae0a902c379c3010ab1a9bb81ad5b10d677fe99527282a", checked := Tryd.checked }
namespace Rows
def none {H : Type} : Left H := { results := [], args := [] }

/- WHAT THE LISTED PACKAGE-LEVEL VARIABLES READ AS WHEN THE CALL BEGINS. Each datum BY PROGRAM (the guide's laid-datum.mjs) off the statement by which the dump's own 'gosem.cut.vars' lays the variable. In a bare row this is a premise. The card (YtlcdgbhigfgehaaDoorCards.lean) ties it to the program's text. -/
def laid_errors_errorType {H : Type} : DataW H := .iface "internal/reflectlite.rtype" (.agg [.ptr (.lit (.string [101, 114, 114, 111, 114]))])
def laid_mirror_batch_errForm {H : Type} : DataW H := .iface "*errors.errorString" (.ptr (.agg [.lit (.string [110, 111, 32, 98, 97, 116, 99, 104])]))

/-- 'mirrorlaw.Names': WHATEVER THE INPUT: true; the input reads as it did. -/
def namesSpec : ChangeSpec := { name := "names", fn := fun _ => fun
  | [] => { results := [.lit (.bool true)], args := [] }
  | _ => none }
def namesRow : OpenClaim := { program := "ytlcdgbhigfgehaadoor", sum := "91f1924da082b24d27ae0a902c379c3010ab1a9bb81ad5b10d677fe99527282a", func := "mirror/mirrorlaw.Names", spec := "names", inPlace := ["internal/reflectlite.ValueOf", "(internal/reflectlite.Value).Type", "(internal/reflectlite.Value).IsNil", "internal/reflectlite.TypeOf", "(internal/reflectlite.Value).Elem", "(internal/reflectlite.Value).Set"], unfollowed := true, recurses := true, named := ["errors.errorType"], plainKeys := false, apart := false, laid := [("errors.errorType", laid_errors_errorType)] }
def NamesSaid : Prop := namesRow.holds Tryd.pinned (OpenSpec.ofChange namesSpec)

/-- ITS FALSE NEIGHBOUR: 'it returns false'. Refute it at one input. -/
def namesWrong : ChangeSpec := { name := "names", fn := fun _ => fun
  | [] => { results := [.lit (.bool false)], args := [] }
  | _ => none }
def NamesWrongFalsely : Prop := namesRow.holds Tryd.pinned (OpenSpec.ofChange namesWrong)

/-- 'mirrorlaw.Applies': WHATEVER THE INPUT: true; the input reads as it did. -/
def appliesSpec : ChangeSpec := { name := "applies", fn := fun _ => fun
  | [d1, d2, d3, d4, d5] => { results := [.lit (.bool true)], args := [d1, d2, d3, d4, d5] }
  | _ => none }
def appliesRow : OpenClaim := { program := "ytlcdgbhigfgehaadoor", sum := "91f1924da082b24d27ae0a902c379c3010ab1a9bb81ad5b10d677fe99527282a", func := "mirror/mirrorlaw.Applies", spec := "applies", inPlace := ["internal/reflectlite.ValueOf", "(internal/reflectlite.Value).Type", "(internal/reflectlite.Value).IsNil", "internal/reflectlite.TypeOf", "(internal/reflectlite.Value).Elem", "(internal/reflectlite.Value).Set"], unfollowed := true, recurses := true, named := ["errors.errorType"], plainKeys := false, apart := false, laid := [("errors.errorType", laid_errors_errorType)] }
def AppliesSaid : Prop := appliesRow.holds Tryd.pinned (OpenSpec.ofChange appliesSpec)

/-- ITS FALSE NEIGHBOUR: 'it returns false'. Refute it at one input. -/
def appliesWrong : ChangeSpec := { name := "applies", fn := fun _ => fun
  | [d1, d2, d3, d4, d5] => { results := [.lit (.bool false)], args := [d1, d2, d3, d4, d5] }
  | _ => none }
def AppliesWrongFalsely : Prop := appliesRow.holds Tryd.pinned (OpenSpec.ofChange appliesWrong)

/-- 'mirrorlaw.Signs': WHATEVER THE INPUT: true; the input reads as it did. -/
def signsSpec : ChangeSpec := { name := "signs", fn := fun _ => fun
  | [d1, d2] => { results := [.lit (.bool true)], args := [d1, d2] }
  | _ => none }
def signsRow : OpenClaim := { program := "ytlcdgbhigfgehaadoor", sum := "91f1924da082b24d27ae0a902c379c3010ab1a9bb81ad5b10d677fe99527282a", func := "mirror/mirrorlaw.Signs", spec := "signs", inPlace := ["internal/reflectlite.ValueOf", "(internal/reflectlite.Value).Type", "(internal/reflectlite.Value).IsNil", "internal/reflectlite.TypeOf", "(internal/reflectlite.Value).Elem", "(internal/reflectlite.Value).Set"], unfollowed := true, recurses := true, named := ["errors.errorType"], plainKeys := false, apart := false, laid := [("errors.errorType", laid_errors_errorType)] }
def SignsSaid : Prop := signsRow.holds Tryd.pinned (OpenSpec.ofChange signsSpec)

/-- ITS FALSE NEIGHBOUR: 'it returns false'. Refute it at one input. -/
def signsWrong : ChangeSpec := { name := "signs", fn := fun _ => fun
  | [d1, d2] => { results := [.lit (.bool false)], args := [d1, d2] }
  | _ => none }
def SignsWrongFalsely : Prop := signsRow.holds Tryd.pinned (OpenSpec.ofChange signsWrong)

/-- 'mirrorlaw.Reads': WHATEVER THE INPUT: true; the input reads as it did. -/
def readsSpec : ChangeSpec := { name := "reads", fn := fun _ => fun
  | [d] => { results := [.lit (.bool true)], args := [d] }
  | _ => none }
def readsRow : OpenClaim := { program := "ytlcdgbhigfgehaadoor", sum := "91f1924da082b24d27ae0a902c379c3010ab1a9bb81ad5b10d677fe99527282a", func := "mirror/mirrorlaw.Reads", spec := "reads", inPlace := ["internal/reflectlite.ValueOf", "(internal/reflectlite.Value).Type", "(internal/reflectlite.Value).IsNil", "internal/reflectlite.TypeOf", "(internal/reflectlite.Value).Elem", "(internal/reflectlite.Value).Set"], unfollowed := true, recurses := true, named := ["mirror/batch.errForm", "errors.errorType"], plainKeys := false, apart := false, laid := [("errors.errorType", laid_errors_errorType), ("mirror/batch.errForm", laid_mirror_batch_errForm)] }
def ReadsSaid : Prop := readsRow.holds Tryd.pinned (OpenSpec.ofChange readsSpec)

/-- ITS FALSE NEIGHBOUR: 'it returns false'. Refute it at one input. -/
def readsWrong : ChangeSpec := { name := "reads", fn := fun _ => fun
  | [d] => { results := [.lit (.bool false)], args := [d] }
  | _ => none }
def ReadsWrongFalsely : Prop := readsRow.holds Tryd.pinned (OpenSpec.ofChange readsWrong)

/-- 'mirrorlaw.Diffs': WHATEVER THE INPUT: true; the input reads as it did. -/
def diffsSpec : ChangeSpec := { name := "diffs", fn := fun _ => fun
  | [d1, d2, d3] => { results := [.lit (.bool true)], args := [d1, d2, d3] }
  | _ => none }
def diffsRow : OpenClaim := { program := "ytlcdgbhigfgehaadoor", sum := "91f1924da082b24d27ae0a902c379c3010ab1a9bb81ad5b10d677fe99527282a", func := "mirror/mirrorlaw.Diffs", spec := "diffs", inPlace := ["internal/reflectlite.ValueOf", "(internal/reflectlite.Value).Type", "(internal/reflectlite.Value).IsNil", "internal/reflectlite.TypeOf", "(internal/reflectlite.Value).Elem", "(internal/reflectlite.Value).Set"], unfollowed := true, recurses := true, named := ["errors.errorType"], plainKeys := false, apart := false, laid := [("errors.errorType", laid_errors_errorType)] }
def DiffsSaid : Prop := diffsRow.holds Tryd.pinned (OpenSpec.ofChange diffsSpec)

/-- ITS FALSE NEIGHBOUR: 'it returns false'. Refute it at one input. -/
def diffsWrong : ChangeSpec := { name := "diffs", fn := fun _ => fun
  | [d1, d2, d3] => { results := [.lit (.bool false)], args := [d1, d2, d3] }
  | _ => none }
def DiffsWrongFalsely : Prop := diffsRow.holds Tryd.pinned (OpenSpec.ofChange diffsWrong)

/-- 'mirrorkeep.Rebuilt': WHATEVER THE INPUT: true; the input reads as it did. -/
def rebuiltSpec : ChangeSpec := { name := "rebuilt", fn := fun _ => fun
  | [d1, d2, d3] => { results := [.lit (.bool true)], args := [d1, d2, d3] }
  | _ => none }
def rebuiltRow : OpenClaim := { program := "ytlcdgbhigfgehaadoor", sum := "91f1924da082b24d27ae0a902c379c3010ab1a9bb81ad5b10d677fe99527282a", func := "mirror/mirrorkeep.Rebuilt", spec := "rebuilt", inPlace := ["internal/reflectlite.ValueOf", "(internal/reflectlite.Value).Type", "(internal/reflectlite.Value).IsNil", "internal/reflectlite.TypeOf", "(internal/reflectlite.Value).Elem", "(internal/reflectlite.Value).Set"], unfollowed := true, recurses := true, named := ["errors.errorType"], plainKeys := false, apart := false, laid := [("errors.errorType", laid_errors_errorType)] }
def RebuiltSaid : Prop := rebuiltRow.holds Tryd.pinned (OpenSpec.ofChange rebuiltSpec)

/-- ITS FALSE NEIGHBOUR: 'it returns false'. Refute it at one input. -/
def rebuiltWrong : ChangeSpec := { name := "rebuilt", fn := fun _ => fun
  | [d1, d2, d3] => { results := [.lit (.bool false)], args := [d1, d2, d3] }
  | _ => none }
def RebuiltWrongFalsely : Prop := rebuiltRow.holds Tryd.pinned (OpenSpec.ofChange rebuiltWrong)

/-- 'mirrorlaw.Records': WHATEVER THE INPUT: true; the input reads as it did. -/
def recordsSpec : ChangeSpec := { name := "records", fn := fun _ => fun
  | [d1, d2, d3, d4, d5] => { results := [.lit (.bool true)], args := [d1, d2, d3, d4, d5] }
  | _ => none }
def recordsRow : OpenClaim := { program := "ytlcdgbhigfgehaadoor", sum := "91f1924da082b24d27ae0a902c379c3010ab1a9bb81ad5b10d677fe99527282a", func := "mirror/mirrorlaw.Records", spec := "records", inPlace := ["internal/reflectlite.ValueOf", "(internal/reflectlite.Value).Type", "(internal/reflectlite.Value).IsNil", "internal/reflectlite.TypeOf", "(internal/reflectlite.Value).Elem", "(internal/reflectlite.Value).Set"], unfollowed := true, recurses := true, named := ["errors.errorType"], plainKeys := false, apart := false, laid := [("errors.errorType", laid_errors_errorType)] }
def RecordsSaid : Prop := recordsRow.holds Tryd.pinned (OpenSpec.ofChange recordsSpec)

/-- ITS FALSE NEIGHBOUR: 'it returns false'. Refute it at one input. -/
def recordsWrong : ChangeSpec := { name := "records", fn := fun _ => fun
  | [d1, d2, d3, d4, d5] => { results := [.lit (.bool false)], args := [d1, d2, d3, d4, d5] }
  | _ => none }
def RecordsWrongFalsely : Prop := recordsRow.holds Tryd.pinned (OpenSpec.ofChange recordsWrong)

/-- 'mirrorkeep.Told': WHATEVER THE INPUT: true; the input reads as it did. -/
def toldSpec : ChangeSpec := { name := "told", fn := fun _ => fun
  | [d1, d2, d3, d4, d5] => { results := [.lit (.bool true)], args := [d1, d2, d3, d4, d5] }
  | _ => none }
def toldRow : OpenClaim := { program := "ytlcdgbhigfgehaadoor", sum := "91f1924da082b24d27ae0a902c379c3010ab1a9bb81ad5b10d677fe99527282a", func := "mirror/mirrorkeep.Told", spec := "told", inPlace := ["internal/reflectlite.ValueOf", "(internal/reflectlite.Value).Type", "(internal/reflectlite.Value).IsNil", "internal/reflectlite.TypeOf", "(internal/reflectlite.Value).Elem", "(internal/reflectlite.Value).Set"], unfollowed := true, recurses := true, named := ["errors.errorType", "mirror/batch.errForm"], plainKeys := false, apart := false, laid := [("errors.errorType", laid_errors_errorType), ("mirror/batch.errForm", laid_mirror_batch_errForm)] }
def ToldSaid : Prop := toldRow.holds Tryd.pinned (OpenSpec.ofChange toldSpec)

/-- ITS FALSE NEIGHBOUR: 'it returns false'. Refute it at one input. -/
def toldWrong : ChangeSpec := { name := "told", fn := fun _ => fun
  | [d1, d2, d3, d4, d5] => { results := [.lit (.bool false)], args := [d1, d2, d3, d4, d5] }
  | _ => none }
def ToldWrongFalsely : Prop := toldRow.holds Tryd.pinned (OpenSpec.ofChange toldWrong)

/- THE SECOND FORM. 'bulk': how many values and letters a reading holds, each counted each time it is reached (what is shared counts as often as it is met; a slice's spare places count too). A statement '..UptoSaid' is the law's where the arguments, and the package variables that the reading takes, are together of bulk at most 1048576: NARROWER than '..Said'. Prove '..Said' where nothing that the law and all that it calls make is longer than what came in: it says more and counts as full. Else prove '..UptoSaid'. A law counts once. -/
mutual
def uptoBulk {H : Type} : DataW H → Nat
  | .lit (.string bytes) => bytes.length + 1
  | .lit _ => 1
  | .nil => 1
  | .ptr d => uptoBulk d + 1
  | .slice elems spare => uptoBulkAll elems + uptoBulkAll spare + 1
  | .agg parts => uptoBulkAll parts + 1
  | .iface _ d => uptoBulk d + 1
  | .map entries => uptoBulkEntries entries + 1
  | .held _ => 1
def uptoBulkAll {H : Type} : List (DataW H) → Nat
  | [] => 0
  | d :: r => uptoBulk d + uptoBulkAll r
def uptoBulkEntries {H : Type} : List (Lit × DataW H) → Nat
  | [] => 0
  | x :: r => uptoBulkEntry x + uptoBulkEntries r
def uptoBulkEntry {H : Type} : Lit × DataW H → Nat
  | (.string bytes, d) => bytes.length + uptoBulk d + 1
  | (_, d) => uptoBulk d + 1
 end
def uptoSmall : (H : Type) → List (DataW H) → Bool := fun _ ds => decide (uptoBulkAll ds ≤ 1048576)
def OpenSpec.upto (s : _root_.Go.ChangeSpec) : _root_.Go.OpenSpec := { _root_.Go.OpenSpec.ofChange s with cond := some uptoSmall }

/-- 'mirrorlaw.Names', WHERE WHAT IT READS IS OF BULK AT MOST 1048576: true; the input reads as it did. -/
def namesUptoRow : OpenClaim := { program := "ytlcdgbhigfgehaadoor", sum := "91f1924da082b24d27ae0a902c379c3010ab1a9bb81ad5b10d677fe99527282a", func := "mirror/mirrorlaw.Names", spec := "names", inPlace := ["internal/reflectlite.ValueOf", "(internal/reflectlite.Value).Type", "(internal/reflectlite.Value).IsNil", "internal/reflectlite.TypeOf", "(internal/reflectlite.Value).Elem", "(internal/reflectlite.Value).Set"], unfollowed := true, recurses := true, named := ["errors.errorType"], plainKeys := false, apart := false, laid := [("errors.errorType", laid_errors_errorType)], narrowed := true }
def NamesUptoSaid : Prop := namesUptoRow.holds Tryd.pinned (OpenSpec.upto namesSpec)

/-- 'mirrorlaw.Applies', WHERE WHAT IT READS IS OF BULK AT MOST 1048576: true; the input reads as it did. -/
def appliesUptoRow : OpenClaim := { program := "ytlcdgbhigfgehaadoor", sum := "91f1924da082b24d27ae0a902c379c3010ab1a9bb81ad5b10d677fe99527282a", func := "mirror/mirrorlaw.Applies", spec := "applies", inPlace := ["internal/reflectlite.ValueOf", "(internal/reflectlite.Value).Type", "(internal/reflectlite.Value).IsNil", "internal/reflectlite.TypeOf", "(internal/reflectlite.Value).Elem", "(internal/reflectlite.Value).Set"], unfollowed := true, recurses := true, named := ["errors.errorType"], plainKeys := false, apart := false, laid := [("errors.errorType", laid_errors_errorType)], narrowed := true }
def AppliesUptoSaid : Prop := appliesUptoRow.holds Tryd.pinned (OpenSpec.upto appliesSpec)

/-- 'mirrorlaw.Signs', WHERE WHAT IT READS IS OF BULK AT MOST 1048576: true; the input reads as it did. -/
def signsUptoRow : OpenClaim := { program := "ytlcdgbhigfgehaadoor", sum := "91f1924da082b24d27ae0a902c379c3010ab1a9bb81ad5b10d677fe99527282a", func := "mirror/mirrorlaw.Signs", spec := "signs", inPlace := ["internal/reflectlite.ValueOf", "(internal/reflectlite.Value).Type", "(internal/reflectlite.Value).IsNil", "internal/reflectlite.TypeOf", "(internal/reflectlite.Value).Elem", "(internal/reflectlite.Value).Set"], unfollowed := true, recurses := true, named := ["errors.errorType"], plainKeys := false, apart := false, laid := [("errors.errorType", laid_errors_errorType)], narrowed := true }
def SignsUptoSaid : Prop := signsUptoRow.holds Tryd.pinned (OpenSpec.upto signsSpec)

/-- 'mirrorlaw.Reads', WHERE WHAT IT READS IS OF BULK AT MOST 1048576: true; the input reads as it did. -/
def readsUptoRow : OpenClaim := { program := "ytlcdgbhigfgehaadoor", sum := "91f1924da082b24d27ae0a902c379c3010ab1a9bb81ad5b10d677fe99527282a", func := "mirror/mirrorlaw.Reads", spec := "reads", inPlace := ["internal/reflectlite.ValueOf", "(internal/reflectlite.Value).Type", "(internal/reflectlite.Value).IsNil", "internal/reflectlite.TypeOf", "(internal/reflectlite.Value).Elem", "(internal/reflectlite.Value).Set"], unfollowed := true, recurses := true, named := ["mirror/batch.errForm", "errors.errorType"], plainKeys := false, apart := false, laid := [("errors.errorType", laid_errors_errorType), ("mirror/batch.errForm", laid_mirror_batch_errForm)], narrowed := true }
def ReadsUptoSaid : Prop := readsUptoRow.holds Tryd.pinned (OpenSpec.upto readsSpec)

/-- 'mirrorlaw.Diffs', WHERE WHAT IT READS IS OF BULK AT MOST 1048576: true; the input reads as it did. -/
def diffsUptoRow : OpenClaim := { program := "ytlcdgbhigfgehaadoor", sum := "91f1924da082b24d27ae0a902c379c3010ab1a9bb81ad5b10d677fe99527282a", func := "mirror/mirrorlaw.Diffs", spec := "diffs", inPlace := ["internal/reflectlite.ValueOf", "(internal/reflectlite.Value).Type", "(internal/reflectlite.Value).IsNil", "internal/reflectlite.TypeOf", "(internal/reflectlite.Value).Elem", "(internal/reflectlite.Value).Set"], unfollowed := true, recurses := true, named := ["errors.errorType"], plainKeys := false, apart := false, laid := [("errors.errorType", laid_errors_errorType)], narrowed := true }
def DiffsUptoSaid : Prop := diffsUptoRow.holds Tryd.pinned (OpenSpec.upto diffsSpec)

/-- 'mirrorkeep.Rebuilt', WHERE WHAT IT READS IS OF BULK AT MOST 1048576: true; the input reads as it did. -/
def rebuiltUptoRow : OpenClaim := { program := "ytlcdgbhigfgehaadoor", sum := "91f1924da082b24d27ae0a902c379c3010ab1a9bb81ad5b10d677fe99527282a", func := "mirror/mirrorkeep.Rebuilt", spec := "rebuilt", inPlace := ["internal/reflectlite.ValueOf", "(internal/reflectlite.Value).Type", "(internal/reflectlite.Value).IsNil", "internal/reflectlite.TypeOf", "(internal/reflectlite.Value).Elem", "(internal/reflectlite.Value).Set"], unfollowed := true, recurses := true, named := ["errors.errorType"], plainKeys := false, apart := false, laid := [("errors.errorType", laid_errors_errorType)], narrowed := true }
def RebuiltUptoSaid : Prop := rebuiltUptoRow.holds Tryd.pinned (OpenSpec.upto rebuiltSpec)

/-- 'mirrorlaw.Records', WHERE WHAT IT READS IS OF BULK AT MOST 1048576: true; the input reads as it did. -/
def recordsUptoRow : OpenClaim := { program := "ytlcdgbhigfgehaadoor", sum := "91f1924da082b24d27ae0a902c379c3010ab1a9bb81ad5b10d677fe99527282a", func := "mirror/mirrorlaw.Records", spec := "records", inPlace := ["internal/reflectlite.ValueOf", "(internal/reflectlite.Value).Type", "(internal/reflectlite.Value).IsNil", "internal/reflectlite.TypeOf", "(internal/reflectlite.Value).Elem", "(internal/reflectlite.Value).Set"], unfollowed := true, recurses := true, named := ["errors.errorType"], plainKeys := false, apart := false, laid := [("errors.errorType", laid_errors_errorType)], narrowed := true }
def RecordsUptoSaid : Prop := recordsUptoRow.holds Tryd.pinned (OpenSpec.upto recordsSpec)

/-- 'mirrorkeep.Told', WHERE WHAT IT READS IS OF BULK AT MOST 1048576: true; the input reads as it did. -/
def toldUptoRow : OpenClaim := { program := "ytlcdgbhigfgehaadoor", sum := "91f1924da082b24d27ae0a902c379c3010ab1a9bb81ad5b10d677fe99527282a", func := "mirror/mirrorkeep.Told", spec := "told", inPlace := ["internal/reflectlite.ValueOf", "(internal/reflectlite.Value).Type", "(internal/reflectlite.Value).IsNil", "internal/reflectlite.TypeOf", "(internal/reflectlite.Value).Elem", "(internal/reflectlite.Value).Set"], unfollowed := true, recurses := true, named := ["errors.errorType", "mirror/batch.errForm"], plainKeys := false, apart := false, laid := [("errors.errorType", laid_errors_errorType), ("mirror/batch.errForm", laid_mirror_batch_errForm)], narrowed := true }
def ToldUptoSaid : Prop := toldUptoRow.holds Tryd.pinned (OpenSpec.upto toldSpec)

end Rows
end Go.Proofs.YtlcdgbhigfgehaaDoor
