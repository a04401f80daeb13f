/-
  No cell of these rows narrows 'for every input' (looked for: loops, veiled, ifaces, maps, wideKeys, modest, calm, conditions, laid).
  DERIVED. THE GIVEN ROWS OF THIS SEAT. 2 by the template 'for every input the law returns true; each argument reads behind the call as it read before'; 0 by the template 'total and deterministic' (their statements: YtlcdgbhigfgehaaTotals.lean).
  GIVEN WITH THE SEED: the statements are not yours to turn. If you find one false, say at which input.
  Laid BY PROGRAM, IN A SANDBOX (cutbox-rows.mjs): the forced cells as the released guide's own fill.sh prints them over the translation cdc7c50b498a9d7a… (all of the seat's roots in one cut). By AI agents, Wed Nov 11 2026. No macro, syntax, notation, axiom, sorry.
-/
import Derived.Test.YtlcdgbhigfgehaaChecked
import GoSem.Claim
import GoSem.ClaimJoined
import GoSem.ClaimMapViews
import Derived.JoinedTies
import Derived.KernelRfl
namespace Go.Proofs.Ytlcdgbhigfgehaa
/- THE CELL 'sum', in the pinned program and in every row, IS THE sha256 OF THE DUMP (.gsa) THAT YtlcdgbhigfgehaaProg.lean LOADS. Nothing in Lean hashes anything: it is a label: what it is worth is what the hold of that sum in a sandbox is worth. -/
noncomputable def Try.pinned : Pinned := { name := "ytlcdgbhigfgehaa", sum := "cdc7c50b498a9d7affa64a2dc40b73e99350634593f9b733359fc09ff0e86519", checked := Try.checked }
namespace Rows
def none {H : Type} : Left H := { results := [], args := [] }

/-- 'mirrorkeep.Rolled': WHATEVER THE INPUT: true; the input reads as it did. -/
def rolledSpec : ChangeSpec := { name := "rolled", fn := fun _ => fun
  | [d1, d2] => { results := [.lit (.bool true)], args := [d1, d2] }
  | _ => none }
def rolledRow : OpenClaim := { program := "ytlcdgbhigfgehaa", sum := "cdc7c50b498a9d7affa64a2dc40b73e99350634593f9b733359fc09ff0e86519", func := "mirror/mirrorkeep.Rolled", spec := "rolled", apart := false }
def RolledSaid : Prop := rolledRow.holds Try.pinned (OpenSpec.ofChange rolledSpec)

/-- ITS FALSE NEIGHBOUR: 'it returns false'. Refute it at one input. -/
def rolledWrong : ChangeSpec := { name := "rolled", fn := fun _ => fun
  | [d1, d2] => { results := [.lit (.bool false)], args := [d1, d2] }
  | _ => none }
def RolledWrongFalsely : Prop := rolledRow.holds Try.pinned (OpenSpec.ofChange rolledWrong)

/-- 'mirrorlaw.Sums': WHATEVER THE INPUT: true; the input reads as it did. -/
def sumsSpec : ChangeSpec := { name := "sums", fn := fun _ => fun
  | [d1, d2, d3, d4, d5] => { results := [.lit (.bool true)], args := [d1, d2, d3, d4, d5] }
  | _ => none }
def sumsRow : OpenClaim := { program := "ytlcdgbhigfgehaa", sum := "cdc7c50b498a9d7affa64a2dc40b73e99350634593f9b733359fc09ff0e86519", func := "mirror/mirrorlaw.Sums", spec := "sums", apart := false }
def SumsSaid : Prop := sumsRow.holds Try.pinned (OpenSpec.ofChange sumsSpec)

/-- ITS FALSE NEIGHBOUR: 'it returns false'. Refute it at one input. -/
def sumsWrong : ChangeSpec := { name := "sums", fn := fun _ => fun
  | [d1, d2, d3, d4, d5] => { results := [.lit (.bool false)], args := [d1, d2, d3, d4, d5] }
  | _ => none }
def SumsWrongFalsely : Prop := sumsRow.holds Try.pinned (OpenSpec.ofChange sumsWrong)

/- THE SECOND FORM. 'bulk': how many values and letters a reading holds, each counted each time it is reached (what is shared counts as often as it is met; a slice's spare places count too). A statement '..UptoSaid' is the law's where the arguments, and the package variables that the reading takes, are together of bulk at most 1048576: NARROWER than '..Said'. Prove '..Said' where nothing that the law and all that it calls make is longer than what came in: it says more and counts as full. Else prove '..UptoSaid'. A law counts once. -/
mutual
def uptoBulk {H : Type} : DataW H → Nat
  | .lit (.string bytes) => bytes.length + 1
  | .lit _ => 1
  | .nil => 1
  | .ptr d => uptoBulk d + 1
  | .slice elems spare => uptoBulkAll elems + uptoBulkAll spare + 1
  | .agg parts => uptoBulkAll parts + 1
  | .iface _ d => uptoBulk d + 1
  | .map entries => uptoBulkEntries entries + 1
  | .held _ => 1
def uptoBulkAll {H : Type} : List (DataW H) → Nat
  | [] => 0
  | d :: r => uptoBulk d + uptoBulkAll r
def uptoBulkEntries {H : Type} : List (Lit × DataW H) → Nat
  | [] => 0
  | x :: r => uptoBulkEntry x + uptoBulkEntries r
def uptoBulkEntry {H : Type} : Lit × DataW H → Nat
  | (.string bytes, d) => bytes.length + uptoBulk d + 1
  | (_, d) => uptoBulk d + 1
 end
def uptoSmall : (H : Type) → List (DataW H) → Bool := fun _ ds => decide (uptoBulkAll ds ≤ 1048576)
def OpenSpec.upto (s : _root_.Go.ChangeSpec) : _root_.Go.OpenSpec := { _root_.Go.OpenSpec.ofChange s with cond := some uptoSmall }

/-- 'mirrorkeep.Rolled', WHERE WHAT IT READS IS OF BULK AT MOST 1048576: true; the input reads as it did. -/
def rolledUptoRow : OpenClaim := { program := "ytlcdgbhigfgehaa", sum := "cdc7c50b498a9d7affa64a2dc40b73e99350634593f9b733359fc09ff0e86519", func := "mirror/mirrorkeep.Rolled", spec := "rolled", apart := false, narrowed := true }
def RolledUptoSaid : Prop := rolledUptoRow.holds Try.pinned (OpenSpec.upto rolledSpec)

/-- 'mirrorlaw.Sums', WHERE WHAT IT READS IS OF BULK AT MOST 1048576: true; the input reads as it did. -/
def sumsUptoRow : OpenClaim := { program := "ytlcdgbhigfgehaa", sum := "cdc7c50b498a9d7affa64a2dc40b73e99350634593f9b733359fc09ff0e86519", func := "mirror/mirrorlaw.Sums", spec := "sums", apart := false, narrowed := true }
def SumsUptoSaid : Prop := sumsUptoRow.holds Try.pinned (OpenSpec.upto sumsSpec)

end Rows
end Go.Proofs.Ytlcdgbhigfgehaa
