/-
  No cell of these rows narrows 'for every input' (looked for: loops, veiled, ifaces, maps, wideKeys, modest, calm, conditions, laid).
  DERIVED. THE GIVEN ROWS OF THIS SEAT. 3 by the template 'for every input the law returns true; each argument reads behind the call as it read before'; 0 by the template 'total and deterministic' (their statements: YtckgpflobhpnpaaTotals.lean).
  GIVEN WITH THE SEED: the statements are not yours to turn. If you find one false, say at which input.
  Laid BY PROGRAM, IN A SANDBOX (cutbox-rows.mjs): the forced cells as the released guide's own fill.sh prints them over the translation da97b06a2fea7641… (all of the seat's roots in one cut). By AI agents, Wed Nov 11 2026. No macro, syntax, notation, axiom, sorry.
-/
import Derived.Test.YtckgpflobhpnpaaChecked
import GoSem.Claim
import GoSem.ClaimJoined
import GoSem.ClaimMapViews
import Derived.JoinedTies
import Derived.KernelRfl
namespace Go.Proofs.Ytckgpflobhpnpaa
/- THE CELL 'sum', in the pinned program and in every row, IS THE sha256 OF THE DUMP (.gsa) THAT YtckgpflobhpnpaaProg.lean LOADS. Nothing in Lean hashes anything: it is a label: what it is worth is what the hold of that sum in a sandbox is worth. -/
noncomputable def Try.pinned : Pinned := { name := "ytckgpflobhpnpaa", sum := "da97b06a2fea76410f5a2e51da6fccd0bc2d2d47d074213c72505df94dc8ab41", checked := Try.checked }
namespace Rows
def none {H : Type} : Left H := { results := [], args := [] }

/-- 'wireloomlaw14.StreamsRuns': WHATEVER THE INPUT: true; the input reads as it did. -/
def streamsRunsSpec : ChangeSpec := { name := "streamsRuns", fn := fun _ => fun
  | [d1, d2, d3] => { results := [.lit (.bool true)], args := [d1, d2, d3] }
  | _ => none }
def streamsRunsRow : OpenClaim := { program := "ytckgpflobhpnpaa", sum := "da97b06a2fea76410f5a2e51da6fccd0bc2d2d47d074213c72505df94dc8ab41", func := "wireloom/wireloomlaw14.StreamsRuns", spec := "streamsRuns", unfollowed := true, recurses := true, apart := false }
def StreamsRunsSaid : Prop := streamsRunsRow.holds Try.pinned (OpenSpec.ofChange streamsRunsSpec)

/-- ITS FALSE NEIGHBOUR: 'it returns false'. Refute it at one input. -/
def streamsRunsWrong : ChangeSpec := { name := "streamsRuns", fn := fun _ => fun
  | [d1, d2, d3] => { results := [.lit (.bool false)], args := [d1, d2, d3] }
  | _ => none }
def StreamsRunsWrongFalsely : Prop := streamsRunsRow.holds Try.pinned (OpenSpec.ofChange streamsRunsWrong)

/-- 'wireloomlaw14.StreamsContinue': WHATEVER THE INPUT: true; the input reads as it did. -/
def streamsContinueSpec : ChangeSpec := { name := "streamsContinue", fn := fun _ => fun
  | [d1, d2, d3] => { results := [.lit (.bool true)], args := [d1, d2, d3] }
  | _ => none }
def streamsContinueRow : OpenClaim := { program := "ytckgpflobhpnpaa", sum := "da97b06a2fea76410f5a2e51da6fccd0bc2d2d47d074213c72505df94dc8ab41", func := "wireloom/wireloomlaw14.StreamsContinue", spec := "streamsContinue", unfollowed := true, recurses := true, apart := false }
def StreamsContinueSaid : Prop := streamsContinueRow.holds Try.pinned (OpenSpec.ofChange streamsContinueSpec)

/-- ITS FALSE NEIGHBOUR: 'it returns false'. Refute it at one input. -/
def streamsContinueWrong : ChangeSpec := { name := "streamsContinue", fn := fun _ => fun
  | [d1, d2, d3] => { results := [.lit (.bool false)], args := [d1, d2, d3] }
  | _ => none }
def StreamsContinueWrongFalsely : Prop := streamsContinueRow.holds Try.pinned (OpenSpec.ofChange streamsContinueWrong)

/-- 'wireloomlaw14.StreamsCompare': WHATEVER THE INPUT: true; the input reads as it did. -/
def streamsCompareSpec : ChangeSpec := { name := "streamsCompare", fn := fun _ => fun
  | [d1, d2, d3] => { results := [.lit (.bool true)], args := [d1, d2, d3] }
  | _ => none }
def streamsCompareRow : OpenClaim := { program := "ytckgpflobhpnpaa", sum := "da97b06a2fea76410f5a2e51da6fccd0bc2d2d47d074213c72505df94dc8ab41", func := "wireloom/wireloomlaw14.StreamsCompare", spec := "streamsCompare", unfollowed := true, recurses := true, apart := false }
def StreamsCompareSaid : Prop := streamsCompareRow.holds Try.pinned (OpenSpec.ofChange streamsCompareSpec)

/-- ITS FALSE NEIGHBOUR: 'it returns false'. Refute it at one input. -/
def streamsCompareWrong : ChangeSpec := { name := "streamsCompare", fn := fun _ => fun
  | [d1, d2, d3] => { results := [.lit (.bool false)], args := [d1, d2, d3] }
  | _ => none }
def StreamsCompareWrongFalsely : Prop := streamsCompareRow.holds Try.pinned (OpenSpec.ofChange streamsCompareWrong)

/- THE SECOND FORM. 'bulk': how many values and letters a reading holds, each counted each time it is reached (what is shared counts as often as it is met; a slice's spare places count too). A statement '..UptoSaid' is the law's where the arguments, and the package variables that the reading takes, are together of bulk at most 1048576: NARROWER than '..Said'. Prove '..Said' where nothing that the law and all that it calls make is longer than what came in: it says more and counts as full. Else prove '..UptoSaid'. A law counts once. -/
mutual
def uptoBulk {H : Type} : DataW H → Nat
  | .lit (.string bytes) => bytes.length + 1
  | .lit _ => 1
  | .nil => 1
  | .ptr d => uptoBulk d + 1
  | .slice elems spare => uptoBulkAll elems + uptoBulkAll spare + 1
  | .agg parts => uptoBulkAll parts + 1
  | .iface _ d => uptoBulk d + 1
  | .map entries => uptoBulkEntries entries + 1
  | .held _ => 1
def uptoBulkAll {H : Type} : List (DataW H) → Nat
  | [] => 0
  | d :: r => uptoBulk d + uptoBulkAll r
def uptoBulkEntries {H : Type} : List (Lit × DataW H) → Nat
  | [] => 0
  | x :: r => uptoBulkEntry x + uptoBulkEntries r
def uptoBulkEntry {H : Type} : Lit × DataW H → Nat
  | (.string bytes, d) => bytes.length + uptoBulk d + 1
  | (_, d) => uptoBulk d + 1
 end
def uptoSmall : (H : Type) → List (DataW H) → Bool := fun _ ds => decide (uptoBulkAll ds ≤ 1048576)
def OpenSpec.upto (s : _root_.Go.ChangeSpec) : _root_.Go.OpenSpec := { _root_.Go.OpenSpec.ofChange s with cond := some uptoSmall }

/-- 'wireloomlaw14.StreamsRuns', WHERE WHAT IT READS IS OF BULK AT MOST 1048576: true; the input reads as it did. -/
def streamsRunsUptoRow : OpenClaim := { program := "ytckgpflobhpnpaa", sum := "da97b06a2fea76410f5a2e51da6fccd0bc2d2d47d074213c72505df94dc8ab41", func := "wireloom/wireloomlaw14.StreamsRuns", spec := "streamsRuns", unfollowed := true, recurses := true, apart := false, narrowed := true }
def StreamsRunsUptoSaid : Prop := streamsRunsUptoRow.holds Try.pinned (OpenSpec.upto streamsRunsSpec)

/-- 'wireloomlaw14.StreamsContinue', WHERE WHAT IT READS IS OF BULK AT MOST 1048576: true; the input reads as it did. -/
def streamsContinueUptoRow : OpenClaim := { program := "ytckgpflobhpnpaa", sum := "da97b06a2fea76410f5a2e51da6fccd0bc2d2d47d074213c72505df94dc8ab41", func := "wireloom/wireloomlaw14.StreamsContinue", spec := "streamsContinue", unfollowed := true, recurses := true, apart := false, narrowed := true }
def StreamsContinueUptoSaid : Prop := streamsContinueUptoRow.holds Try.pinned (OpenSpec.upto streamsContinueSpec)

/-- 'wireloomlaw14.StreamsCompare', WHERE WHAT IT READS IS OF BULK AT MOST 1048576: true; the input reads as it did. -/
def streamsCompareUptoRow : OpenClaim := { program := "ytckgpflobhpnpaa", sum := "da97b06a2fea76410f5a2e51da6fccd0bc2d2d47d074213c72505df94dc8ab41", func := "wireloom/wireloomlaw14.StreamsCompare", spec := "streamsCompare", unfollowed := true, recurses := true, apart := false, narrowed := true }
def StreamsCompareUptoSaid : Prop := streamsCompareUptoRow.holds Try.pinned (OpenSpec.upto streamsCompareSpec)

end Rows
end Go.Proofs.Ytckgpflobhpnpaa
