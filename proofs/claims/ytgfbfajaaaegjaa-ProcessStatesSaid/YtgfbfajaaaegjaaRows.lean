/-
  No cell of these rows narrows 'for every input' (looked for: loops, veiled, ifaces, maps, wideKeys, modest, calm, conditions, laid).
  DERIVED. THE GIVEN ROWS OF THIS SEAT. 6 by the template 'for every input the law returns true; each argument reads behind the call as it read before'; 0 by the template 'total and deterministic' (their statements: YtgfbfajaaaegjaaTotals.lean).
  GIVEN WITH THE SEED: the statements are not yours to turn. If you find one false, say at which input.
  Laid BY PROGRAM, IN A SANDBOX (cutbox-rows.mjs): the forced cells as the released guide's own fill.sh prints them over the translation 38ba181b7dfa334a… (all of the seat's roots in one cut). By AI agents, Wed Nov 11 2026. No macro, syntax, notation, axiom, sorry.
-/
import Derived.Test.YtgfbfajaaaegjaaChecked
import GoSem.Claim
import GoSem.ClaimJoined
import GoSem.ClaimMapViews
import Derived.JoinedTies
import Derived.KernelRfl
namespace Go.Proofs.Ytgfbfajaaaegjaa
/- THE CELL 'sum', in the pinned program and in every row, IS THE sha256 OF THE DUMP (.gsa) THAT YtgfbfajaaaegjaaProg.lean LOADS. Nothing in Lean hashes anything: it is a label: what it is worth is what the hold of that sum in a sandbox is worth. -/
noncomputable def Try.pinned : Pinned := { name := "ytgfbfajaaaegjaa", sum := "38ba181b7dfa334aed6ca1762f8f22615a3e76f078df3cac03ee369879a47828", checked := Try.checked }
namespace Rows
def none {H : Type} : Left H := { results := [], args := [] }

/-- 'wireloomlaw12.ProcessMatchesReference': WHATEVER THE INPUT: true; the input reads as it did. -/
def processMatchesReferenceSpec : ChangeSpec := { name := "processMatchesReference", fn := fun _ => fun
  | [d1, d2, d3] => { results := [.lit (.bool true)], args := [d1, d2, d3] }
  | _ => none }
def processMatchesReferenceRow : OpenClaim := { program := "ytgfbfajaaaegjaa", sum := "38ba181b7dfa334aed6ca1762f8f22615a3e76f078df3cac03ee369879a47828", func := "wireloom/wireloomlaw12.ProcessMatchesReference", spec := "processMatchesReference", unfollowed := true, recurses := true, apart := false }
def ProcessMatchesReferenceSaid : Prop := processMatchesReferenceRow.holds Try.pinned (OpenSpec.ofChange processMatchesReferenceSpec)

/-- ITS FALSE NEIGHBOUR: 'it returns false'. Refute it at one input. -/
def processMatchesReferenceWrong : ChangeSpec := { name := "processMatchesReference", fn := fun _ => fun
  | [d1, d2, d3] => { results := [.lit (.bool false)], args := [d1, d2, d3] }
  | _ => none }
def ProcessMatchesReferenceWrongFalsely : Prop := processMatchesReferenceRow.holds Try.pinned (OpenSpec.ofChange processMatchesReferenceWrong)

/-- 'wireloomlaw12.ProcessBlocks': WHATEVER THE INPUT: true; the input reads as it did. -/
def processBlocksSpec : ChangeSpec := { name := "processBlocks", fn := fun _ => fun
  | [d1, d2] => { results := [.lit (.bool true)], args := [d1, d2] }
  | _ => none }
def processBlocksRow : OpenClaim := { program := "ytgfbfajaaaegjaa", sum := "38ba181b7dfa334aed6ca1762f8f22615a3e76f078df3cac03ee369879a47828", func := "wireloom/wireloomlaw12.ProcessBlocks", spec := "processBlocks", unfollowed := true, recurses := true, apart := false }
def ProcessBlocksSaid : Prop := processBlocksRow.holds Try.pinned (OpenSpec.ofChange processBlocksSpec)

/-- ITS FALSE NEIGHBOUR: 'it returns false'. Refute it at one input. -/
def processBlocksWrong : ChangeSpec := { name := "processBlocks", fn := fun _ => fun
  | [d1, d2] => { results := [.lit (.bool false)], args := [d1, d2] }
  | _ => none }
def ProcessBlocksWrongFalsely : Prop := processBlocksRow.holds Try.pinned (OpenSpec.ofChange processBlocksWrong)

/-- 'wireloomlaw12.ProcessWrites': WHATEVER THE INPUT: true; the input reads as it did. -/
def processWritesSpec : ChangeSpec := { name := "processWrites", fn := fun _ => fun
  | [d1, d2] => { results := [.lit (.bool true)], args := [d1, d2] }
  | _ => none }
def processWritesRow : OpenClaim := { program := "ytgfbfajaaaegjaa", sum := "38ba181b7dfa334aed6ca1762f8f22615a3e76f078df3cac03ee369879a47828", func := "wireloom/wireloomlaw12.ProcessWrites", spec := "processWrites", unfollowed := true, recurses := true, apart := false }
def ProcessWritesSaid : Prop := processWritesRow.holds Try.pinned (OpenSpec.ofChange processWritesSpec)

/-- ITS FALSE NEIGHBOUR: 'it returns false'. Refute it at one input. -/
def processWritesWrong : ChangeSpec := { name := "processWrites", fn := fun _ => fun
  | [d1, d2] => { results := [.lit (.bool false)], args := [d1, d2] }
  | _ => none }
def ProcessWritesWrongFalsely : Prop := processWritesRow.holds Try.pinned (OpenSpec.ofChange processWritesWrong)

/-- 'wireloomlaw12.ProcessSimultaneous': WHATEVER THE INPUT: true; the input reads as it did. -/
def processSimultaneousSpec : ChangeSpec := { name := "processSimultaneous", fn := fun _ => fun
  | [d1, d2] => { results := [.lit (.bool true)], args := [d1, d2] }
  | _ => none }
def processSimultaneousRow : OpenClaim := { program := "ytgfbfajaaaegjaa", sum := "38ba181b7dfa334aed6ca1762f8f22615a3e76f078df3cac03ee369879a47828", func := "wireloom/wireloomlaw12.ProcessSimultaneous", spec := "processSimultaneous", unfollowed := true, recurses := true, apart := false }
def ProcessSimultaneousSaid : Prop := processSimultaneousRow.holds Try.pinned (OpenSpec.ofChange processSimultaneousSpec)

/-- ITS FALSE NEIGHBOUR: 'it returns false'. Refute it at one input. -/
def processSimultaneousWrong : ChangeSpec := { name := "processSimultaneous", fn := fun _ => fun
  | [d1, d2] => { results := [.lit (.bool false)], args := [d1, d2] }
  | _ => none }
def ProcessSimultaneousWrongFalsely : Prop := processSimultaneousRow.holds Try.pinned (OpenSpec.ofChange processSimultaneousWrong)

/-- 'wireloomlaw12.ProcessValues': WHATEVER THE INPUT: true; the input reads as it did. -/
def processValuesSpec : ChangeSpec := { name := "processValues", fn := fun _ => fun
  | [d1, d2] => { results := [.lit (.bool true)], args := [d1, d2] }
  | _ => none }
def processValuesRow : OpenClaim := { program := "ytgfbfajaaaegjaa", sum := "38ba181b7dfa334aed6ca1762f8f22615a3e76f078df3cac03ee369879a47828", func := "wireloom/wireloomlaw12.ProcessValues", spec := "processValues", unfollowed := true, recurses := true, apart := false }
def ProcessValuesSaid : Prop := processValuesRow.holds Try.pinned (OpenSpec.ofChange processValuesSpec)

/-- ITS FALSE NEIGHBOUR: 'it returns false'. Refute it at one input. -/
def processValuesWrong : ChangeSpec := { name := "processValues", fn := fun _ => fun
  | [d1, d2] => { results := [.lit (.bool false)], args := [d1, d2] }
  | _ => none }
def ProcessValuesWrongFalsely : Prop := processValuesRow.holds Try.pinned (OpenSpec.ofChange processValuesWrong)

/-- 'wireloomlaw12.ProcessStates': WHATEVER THE INPUT: true; the input reads as it did. -/
def processStatesSpec : ChangeSpec := { name := "processStates", fn := fun _ => fun
  | [d1, d2] => { results := [.lit (.bool true)], args := [d1, d2] }
  | _ => none }
def processStatesRow : OpenClaim := { program := "ytgfbfajaaaegjaa", sum := "38ba181b7dfa334aed6ca1762f8f22615a3e76f078df3cac03ee369879a47828", func := "wireloom/wireloomlaw12.ProcessStates", spec := "processStates", unfollowed := true, recurses := true, apart := false }
def ProcessStatesSaid : Prop := processStatesRow.holds Try.pinned (OpenSpec.ofChange processStatesSpec)

/-- ITS FALSE NEIGHBOUR: 'it returns false'. Refute it at one input. -/
def processStatesWrong : ChangeSpec := { name := "processStates", fn := fun _ => fun
  | [d1, d2] => { results := [.lit (.bool false)], args := [d1, d2] }
  | _ => none }
def ProcessStatesWrongFalsely : Prop := processStatesRow.holds Try.pinned (OpenSpec.ofChange processStatesWrong)

/- THE SECOND FORM. 'bulk': how many values and letters a reading holds, each counted each time it is reached (what is shared counts as often as it is met; a slice's spare places count too). A statement '..UptoSaid' is the law's where the arguments, and the package variables that the reading takes, are together of bulk at most 1048576: NARROWER than '..Said'. Prove '..Said' where nothing that the law and all that it calls make is longer than what came in: it says more and counts as full. Else prove '..UptoSaid'. A law counts once. -/
mutual
def uptoBulk {H : Type} : DataW H → Nat
  | .lit (.string bytes) => bytes.length + 1
  | .lit _ => 1
  | .nil => 1
  | .ptr d => uptoBulk d + 1
  | .slice elems spare => uptoBulkAll elems + uptoBulkAll spare + 1
  | .agg parts => uptoBulkAll parts + 1
  | .iface _ d => uptoBulk d + 1
  | .map entries => uptoBulkEntries entries + 1
  | .held _ => 1
def uptoBulkAll {H : Type} : List (DataW H) → Nat
  | [] => 0
  | d :: r => uptoBulk d + uptoBulkAll r
def uptoBulkEntries {H : Type} : List (Lit × DataW H) → Nat
  | [] => 0
  | x :: r => uptoBulkEntry x + uptoBulkEntries r
def uptoBulkEntry {H : Type} : Lit × DataW H → Nat
  | (.string bytes, d) => bytes.length + uptoBulk d + 1
  | (_, d) => uptoBulk d + 1
 end
def uptoSmall : (H : Type) → List (DataW H) → Bool := fun _ ds => decide (uptoBulkAll ds ≤ 1048576)
def OpenSpec.upto (s : _root_.Go.ChangeSpec) : _root_.Go.OpenSpec := { _root_.Go.OpenSpec.ofChange s with cond := some uptoSmall }

/-- 'wireloomlaw12.ProcessMatchesReference', WHERE WHAT IT READS IS OF BULK AT MOST 1048576: true; the input reads as it did. -/
def processMatchesReferenceUptoRow : OpenClaim := { program := "ytgfbfajaaaegjaa", sum := "38ba181b7dfa334aed6ca1762f8f22615a3e76f078df3cac03ee369879a47828", func := "wireloom/wireloomlaw12.ProcessMatchesReference", spec := "processMatchesReference", unfollowed := true, recurses := true, apart := false, narrowed := true }
def ProcessMatchesReferenceUptoSaid : Prop := processMatchesReferenceUptoRow.holds Try.pinned (OpenSpec.upto processMatchesReferenceSpec)

/-- 'wireloomlaw12.ProcessBlocks', WHERE WHAT IT READS IS OF BULK AT MOST 1048576: true; the input reads as it did. -/
def processBlocksUptoRow : OpenClaim := { program := "ytgfbfajaaaegjaa", sum := "38ba181b7dfa334aed6ca1762f8f22615a3e76f078df3cac03ee369879a47828", func := "wireloom/wireloomlaw12.ProcessBlocks", spec := "processBlocks", unfollowed := true, recurses := true, apart := false, narrowed := true }
def ProcessBlocksUptoSaid : Prop := processBlocksUptoRow.holds Try.pinned (OpenSpec.upto processBlocksSpec)

/-- 'wireloomlaw12.ProcessWrites', WHERE WHAT IT READS IS OF BULK AT MOST 1048576: true; the input reads as it did. -/
def processWritesUptoRow : OpenClaim := { program := "ytgfbfajaaaegjaa", sum := "38ba181b7dfa334aed6ca1762f8f22615a3e76f078df3cac03ee369879a47828", func := "wireloom/wireloomlaw12.ProcessWrites", spec := "processWrites", unfollowed := true, recurses := true, apart := false, narrowed := true }
def ProcessWritesUptoSaid : Prop := processWritesUptoRow.holds Try.pinned (OpenSpec.upto processWritesSpec)

/-- 'wireloomlaw12.ProcessSimultaneous', WHERE WHAT IT READS IS OF BULK AT MOST 1048576: true; the input reads as it did. -/
def processSimultaneousUptoRow : OpenClaim := { program := "ytgfbfajaaaegjaa", sum := "38ba181b7dfa334aed6ca1762f8f22615a3e76f078df3cac03ee369879a47828", func := "wireloom/wireloomlaw12.ProcessSimultaneous", spec := "processSimultaneous", unfollowed := true, recurses := true, apart := false, narrowed := true }
def ProcessSimultaneousUptoSaid : Prop := processSimultaneousUptoRow.holds Try.pinned (OpenSpec.upto processSimultaneousSpec)

/-- 'wireloomlaw12.ProcessValues', WHERE WHAT IT READS IS OF BULK AT MOST 1048576: true; the input reads as it did. -/
def processValuesUptoRow : OpenClaim := { program := "ytgfbfajaaaegjaa", sum := "38ba181b7dfa334aed6ca1762f8f22615a3e76f078df3cac03ee369879a47828", func := "wireloom/wireloomlaw12.ProcessValues", spec := "processValues", unfollowed := true, recurses := true, apart := false, narrowed := true }
def ProcessValuesUptoSaid : Prop := processValuesUptoRow.holds Try.pinned (OpenSpec.upto processValuesSpec)

/-- 'wireloomlaw12.ProcessStates', WHERE WHAT IT READS IS OF BULK AT MOST 1048576: true; the input reads as it did. -/
def processStatesUptoRow : OpenClaim := { program := "ytgfbfajaaaegjaa", sum := "38ba181b7dfa334aed6ca1762f8f22615a3e76f078df3cac03ee369879a47828", func := "wireloom/wireloomlaw12.ProcessStates", spec := "processStates", unfollowed := true, recurses := true, apart := false, narrowed := true }
def ProcessStatesUptoSaid : Prop := processStatesUptoRow.holds Try.pinned (OpenSpec.upto processStatesSpec)

end Rows
end Go.Proofs.Ytgfbfajaaaegjaa
