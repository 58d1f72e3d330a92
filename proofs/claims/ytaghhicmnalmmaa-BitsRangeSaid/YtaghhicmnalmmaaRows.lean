/-
  No cell of these rows narrows 'for every input' (looked for: loops, veiled, ifaces, maps, wideKeys, modest, calm, conditions, laid).
  DERIVED. THE GIVEN ROWS OF THIS SEAT. 6 by the template 'for every input the law returns true; each argument reads behind the call as it read before'; 0 by the template 'total and deterministic' (their statements: YtaghhicmnalmmaaTotals.lean).
  GIVEN WITH THE SEED: the statements are not yours to turn. If you find one false, say at which input.
  Laid BY PROGRAM, IN A SANDBOX (cutbox-rows.mjs): the forced cells as the released guide's own fill.sh prints them over the translation 70f502bfd32fd839… (all of the seat's roots in one cut). By AI agents, Wed Nov 11 2026. No macro, syntax, notation, axiom, sorry.
-/
import Derived.Test.YtaghhicmnalmmaaChecked
import GoSem.Claim
import GoSem.ClaimJoined
import GoSem.ClaimMapViews
import Derived.JoinedTies
import Derived.KernelRfl
namespace Go.Proofs.Ytaghhicmnalmmaa
/- THE CELL 'sum', in the pinned program and in every row, IS THE sha256 OF THE DUMP (.gsa) THAT YtaghhicmnalmmaaProg.lean LOADS. Nothing in Lean hashes anything: it is a label: what it is worth is what the hold of that sum in a sandbox is worth. -/
noncomputable def Try.pinned : Pinned := { name := "ytaghhicmnalmmaa", sum := "70f502bfd32fd839d7b6be7bb190aa66f196012e56147b8985e0c84e205be60b", checked := Try.checked }
namespace Rows
def none {H : Type} : Left H := { results := [], args := [] }

/-- 'wireloomlaw07.BitsMatchesReference': WHATEVER THE INPUT: true; the input reads as it did. -/
def bitsMatchesReferenceSpec : ChangeSpec := { name := "bitsMatchesReference", fn := fun _ => fun
  | [d] => { results := [.lit (.bool true)], args := [d] }
  | _ => none }
def bitsMatchesReferenceRow : OpenClaim := { program := "ytaghhicmnalmmaa", sum := "70f502bfd32fd839d7b6be7bb190aa66f196012e56147b8985e0c84e205be60b", func := "wireloom/wireloomlaw07.BitsMatchesReference", spec := "bitsMatchesReference", unfollowed := true, recurses := true, apart := false }
def BitsMatchesReferenceSaid : Prop := bitsMatchesReferenceRow.holds Try.pinned (OpenSpec.ofChange bitsMatchesReferenceSpec)

/-- ITS FALSE NEIGHBOUR: 'it returns false'. Refute it at one input. -/
def bitsMatchesReferenceWrong : ChangeSpec := { name := "bitsMatchesReference", fn := fun _ => fun
  | [d] => { results := [.lit (.bool false)], args := [d] }
  | _ => none }
def BitsMatchesReferenceWrongFalsely : Prop := bitsMatchesReferenceRow.holds Try.pinned (OpenSpec.ofChange bitsMatchesReferenceWrong)

/-- 'wireloomlaw07.BitsRange': WHATEVER THE INPUT: true; the input reads as it did. -/
def bitsRangeSpec : ChangeSpec := { name := "bitsRange", fn := fun _ => fun
  | [d1, d2, d3] => { results := [.lit (.bool true)], args := [d1, d2, d3] }
  | _ => none }
def bitsRangeRow : OpenClaim := { program := "ytaghhicmnalmmaa", sum := "70f502bfd32fd839d7b6be7bb190aa66f196012e56147b8985e0c84e205be60b", func := "wireloom/wireloomlaw07.BitsRange", spec := "bitsRange", unfollowed := true, recurses := true, apart := false }
def BitsRangeSaid : Prop := bitsRangeRow.holds Try.pinned (OpenSpec.ofChange bitsRangeSpec)

/-- ITS FALSE NEIGHBOUR: 'it returns false'. Refute it at one input. -/
def bitsRangeWrong : ChangeSpec := { name := "bitsRange", fn := fun _ => fun
  | [d1, d2, d3] => { results := [.lit (.bool false)], args := [d1, d2, d3] }
  | _ => none }
def BitsRangeWrongFalsely : Prop := bitsRangeRow.holds Try.pinned (OpenSpec.ofChange bitsRangeWrong)

/-- 'wireloomlaw07.BitsArithmetic': WHATEVER THE INPUT: true; the input reads as it did. -/
def bitsArithmeticSpec : ChangeSpec := { name := "bitsArithmetic", fn := fun _ => fun
  | [d1, d2, d3] => { results := [.lit (.bool true)], args := [d1, d2, d3] }
  | _ => none }
def bitsArithmeticRow : OpenClaim := { program := "ytaghhicmnalmmaa", sum := "70f502bfd32fd839d7b6be7bb190aa66f196012e56147b8985e0c84e205be60b", func := "wireloom/wireloomlaw07.BitsArithmetic", spec := "bitsArithmetic", unfollowed := true, recurses := true, apart := false }
def BitsArithmeticSaid : Prop := bitsArithmeticRow.holds Try.pinned (OpenSpec.ofChange bitsArithmeticSpec)

/-- ITS FALSE NEIGHBOUR: 'it returns false'. Refute it at one input. -/
def bitsArithmeticWrong : ChangeSpec := { name := "bitsArithmetic", fn := fun _ => fun
  | [d1, d2, d3] => { results := [.lit (.bool false)], args := [d1, d2, d3] }
  | _ => none }
def BitsArithmeticWrongFalsely : Prop := bitsArithmeticRow.holds Try.pinned (OpenSpec.ofChange bitsArithmeticWrong)

/-- 'wireloomlaw07.BitsParts': WHATEVER THE INPUT: true; the input reads as it did. -/
def bitsPartsSpec : ChangeSpec := { name := "bitsParts", fn := fun _ => fun
  | [d1, d2, d3] => { results := [.lit (.bool true)], args := [d1, d2, d3] }
  | _ => none }
def bitsPartsRow : OpenClaim := { program := "ytaghhicmnalmmaa", sum := "70f502bfd32fd839d7b6be7bb190aa66f196012e56147b8985e0c84e205be60b", func := "wireloom/wireloomlaw07.BitsParts", spec := "bitsParts", unfollowed := true, recurses := true, apart := false }
def BitsPartsSaid : Prop := bitsPartsRow.holds Try.pinned (OpenSpec.ofChange bitsPartsSpec)

/-- ITS FALSE NEIGHBOUR: 'it returns false'. Refute it at one input. -/
def bitsPartsWrong : ChangeSpec := { name := "bitsParts", fn := fun _ => fun
  | [d1, d2, d3] => { results := [.lit (.bool false)], args := [d1, d2, d3] }
  | _ => none }
def BitsPartsWrongFalsely : Prop := bitsPartsRow.holds Try.pinned (OpenSpec.ofChange bitsPartsWrong)

/-- 'wireloomlaw07.BitsComparison': WHATEVER THE INPUT: true; the input reads as it did. -/
def bitsComparisonSpec : ChangeSpec := { name := "bitsComparison", fn := fun _ => fun
  | [d1, d2, d3] => { results := [.lit (.bool true)], args := [d1, d2, d3] }
  | _ => none }
def bitsComparisonRow : OpenClaim := { program := "ytaghhicmnalmmaa", sum := "70f502bfd32fd839d7b6be7bb190aa66f196012e56147b8985e0c84e205be60b", func := "wireloom/wireloomlaw07.BitsComparison", spec := "bitsComparison", unfollowed := true, recurses := true, apart := false }
def BitsComparisonSaid : Prop := bitsComparisonRow.holds Try.pinned (OpenSpec.ofChange bitsComparisonSpec)

/-- ITS FALSE NEIGHBOUR: 'it returns false'. Refute it at one input. -/
def bitsComparisonWrong : ChangeSpec := { name := "bitsComparison", fn := fun _ => fun
  | [d1, d2, d3] => { results := [.lit (.bool false)], args := [d1, d2, d3] }
  | _ => none }
def BitsComparisonWrongFalsely : Prop := bitsComparisonRow.holds Try.pinned (OpenSpec.ofChange bitsComparisonWrong)

/-- 'wireloomlaw07.BitsBitwise': WHATEVER THE INPUT: true; the input reads as it did. -/
def bitsBitwiseSpec : ChangeSpec := { name := "bitsBitwise", fn := fun _ => fun
  | [d1, d2, d3] => { results := [.lit (.bool true)], args := [d1, d2, d3] }
  | _ => none }
def bitsBitwiseRow : OpenClaim := { program := "ytaghhicmnalmmaa", sum := "70f502bfd32fd839d7b6be7bb190aa66f196012e56147b8985e0c84e205be60b", func := "wireloom/wireloomlaw07.BitsBitwise", spec := "bitsBitwise", unfollowed := true, recurses := true, apart := false }
def BitsBitwiseSaid : Prop := bitsBitwiseRow.holds Try.pinned (OpenSpec.ofChange bitsBitwiseSpec)

/-- ITS FALSE NEIGHBOUR: 'it returns false'. Refute it at one input. -/
def bitsBitwiseWrong : ChangeSpec := { name := "bitsBitwise", fn := fun _ => fun
  | [d1, d2, d3] => { results := [.lit (.bool false)], args := [d1, d2, d3] }
  | _ => none }
def BitsBitwiseWrongFalsely : Prop := bitsBitwiseRow.holds Try.pinned (OpenSpec.ofChange bitsBitwiseWrong)

/- THE SECOND FORM. 'bulk': how many values and letters a reading holds, each counted each time it is reached (what is shared counts as often as it is met; a slice's spare places count too). A statement '..UptoSaid' is the law's where the arguments, and the package variables that the reading takes, are together of bulk at most 1048576: NARROWER than '..Said'. Prove '..Said' where nothing that the law and all that it calls make is longer than what came in: it says more and counts as full. Else prove '..UptoSaid'. A law counts once. -/
mutual
def uptoBulk {H : Type} : DataW H → Nat
  | .lit (.string bytes) => bytes.length + 1
  | .lit _ => 1
  | .nil => 1
  | .ptr d => uptoBulk d + 1
  | .slice elems spare => uptoBulkAll elems + uptoBulkAll spare + 1
  | .agg parts => uptoBulkAll parts + 1
  | .iface _ d => uptoBulk d + 1
  | .map entries => uptoBulkEntries entries + 1
  | .held _ => 1
def uptoBulkAll {H : Type} : List (DataW H) → Nat
  | [] => 0
  | d :: r => uptoBulk d + uptoBulkAll r
def uptoBulkEntries {H : Type} : List (Lit × DataW H) → Nat
  | [] => 0
  | x :: r => uptoBulkEntry x + uptoBulkEntries r
def uptoBulkEntry {H : Type} : Lit × DataW H → Nat
  | (.string bytes, d) => bytes.length + uptoBulk d + 1
  | (_, d) => uptoBulk d + 1
 end
def uptoSmall : (H : Type) → List (DataW H) → Bool := fun _ ds => decide (uptoBulkAll ds ≤ 1048576)
def OpenSpec.upto (s : _root_.Go.ChangeSpec) : _root_.Go.OpenSpec := { _root_.Go.OpenSpec.ofChange s with cond := some uptoSmall }

/-- 'wireloomlaw07.BitsMatchesReference', WHERE WHAT IT READS IS OF BULK AT MOST 1048576: true; the input reads as it did. -/
def bitsMatchesReferenceUptoRow : OpenClaim := { program := "ytaghhicmnalmmaa", sum := "70f502bfd32fd839d7b6be7bb190aa66f196012e56147b8985e0c84e205be60b", func := "wireloom/wireloomlaw07.BitsMatchesReference", spec := "bitsMatchesReference", unfollowed := true, recurses := true, apart := false, narrowed := true }
def BitsMatchesReferenceUptoSaid : Prop := bitsMatchesReferenceUptoRow.holds Try.pinned (OpenSpec.upto bitsMatchesReferenceSpec)

/-- 'wireloomlaw07.BitsRange', WHERE WHAT IT READS IS OF BULK AT MOST 1048576: true; the input reads as it did. -/
def bitsRangeUptoRow : OpenClaim := { program := "ytaghhicmnalmmaa", sum := "70f502bfd32fd839d7b6be7bb190aa66f196012e56147b8985e0c84e205be60b", func := "wireloom/wireloomlaw07.BitsRange", spec := "bitsRange", unfollowed := true, recurses := true, apart := false, narrowed := true }
def BitsRangeUptoSaid : Prop := bitsRangeUptoRow.holds Try.pinned (OpenSpec.upto bitsRangeSpec)

/-- 'wireloomlaw07.BitsArithmetic', WHERE WHAT IT READS IS OF BULK AT MOST 1048576: true; the input reads as it did. -/
def bitsArithmeticUptoRow : OpenClaim := { program := "ytaghhicmnalmmaa", sum := "70f502bfd32fd839d7b6be7bb190aa66f196012e56147b8985e0c84e205be60b", func := "wireloom/wireloomlaw07.BitsArithmetic", spec := "bitsArithmetic", unfollowed := true, recurses := true, apart := false, narrowed := true }
def BitsArithmeticUptoSaid : Prop := bitsArithmeticUptoRow.holds Try.pinned (OpenSpec.upto bitsArithmeticSpec)

/-- 'wireloomlaw07.BitsParts', WHERE WHAT IT READS IS OF BULK AT MOST 1048576: true; the input reads as it did. -/
def bitsPartsUptoRow : OpenClaim := { program := "ytaghhicmnalmmaa", sum := "70f502bfd32fd839d7b6be7bb190aa66f196012e56147b8985e0c84e205be60b", func := "wireloom/wireloomlaw07.BitsParts", spec := "bitsParts", unfollowed := true, recurses := true, apart := false, narrowed := true }
def BitsPartsUptoSaid : Prop := bitsPartsUptoRow.holds Try.pinned (OpenSpec.upto bitsPartsSpec)

/-- 'wireloomlaw07.BitsComparison', WHERE WHAT IT READS IS OF BULK AT MOST 1048576: true; the input reads as it did. -/
def bitsComparisonUptoRow : OpenClaim := { program := "ytaghhicmnalmmaa", sum := "70f502bfd32fd839d7b6be7bb190aa66f196012e56147b8985e0c84e205be60b", func := "wireloom/wireloomlaw07.BitsComparison", spec := "bitsComparison", unfollowed := true, recurses := true, apart := false, narrowed := true }
def BitsComparisonUptoSaid : Prop := bitsComparisonUptoRow.holds Try.pinned (OpenSpec.upto bitsComparisonSpec)

/-- 'wireloomlaw07.BitsBitwise', WHERE WHAT IT READS IS OF BULK AT MOST 1048576: true; the input reads as it did. -/
def bitsBitwiseUptoRow : OpenClaim := { program := "ytaghhicmnalmmaa", sum := "70f502bfd32fd839d7b6be7bb190aa66f196012e56147b8985e0c84e205be60b", func := "wireloom/wireloomlaw07.BitsBitwise", spec := "bitsBitwise", unfollowed := true, recurses := true, apart := false, narrowed := true }
def BitsBitwiseUptoSaid : Prop := bitsBitwiseUptoRow.holds Try.pinned (OpenSpec.upto bitsBitwiseSpec)

end Rows
end Go.Proofs.Ytaghhicmnalmmaa
