/-
  No cell of these rows narrows 'for every input' (looked for: loops, veiled, ifaces, maps, wideKeys, modest, calm, conditions, laid).
  DERIVED. THE GIVEN ROWS OF THIS SEAT. 12 by the template 'for every input the law returns true; each argument reads behind the call as it read before'; 0 by the template 'total and deterministic' (their statements: YtjmfaebimgnblaaTotals.lean).
  GIVEN WITH THE SEED: the statements are not yours to turn. If you find one false, say at which input.
  Laid BY PROGRAM, IN A SANDBOX (cutbox-rows.mjs): the forced cells as the released guide's own fill.sh prints them over the translation 472e3123af47a70f… (all of the seat's roots in one cut). By AI agents, Wed Nov 11 2026. No macro, syntax, notation, axiom, sorry.
-/
import Derived.Test.YtjmfaebimgnblaaChecked
import GoSem.Claim
import GoSem.ClaimJoined
import GoSem.ClaimMapViews
import Derived.JoinedTies
import Derived.KernelRfl
namespace Go.Proofs.Ytjmfaebimgnblaa
/- THE CELL 'sum', in the pinned program and in every row, IS THE sha256 OF THE DUMP (.gsa) THAT YtjmfaebimgnblaaProg.lean LOADS. Nothing in Lean hashes anything: it is a label: what it is worth is what the hold of that sum in a sandbox is worth. -/
noncomputable def Try.pinned : Pinned := { name := "ytjmfaebimgnblaa", sum := "472e3123af47a70fcac89719aff63173a10ea70ce7d5b95807d873758435c9f2", checked := Try.checked }
namespace Rows
def none {H : Type} : Left H := { results := [], args := [] }

/-- 'wireloomlaw01.DigestPaths': WHATEVER THE INPUT: true; the input reads as it did. -/
def digestPathsSpec : ChangeSpec := { name := "digestPaths", fn := fun _ => fun
  | [d1, d2] => { results := [.lit (.bool true)], args := [d1, d2] }
  | _ => none }
def digestPathsRow : OpenClaim := { program := "ytjmfaebimgnblaa", sum := "472e3123af47a70fcac89719aff63173a10ea70ce7d5b95807d873758435c9f2", func := "wireloom/wireloomlaw01.DigestPaths", spec := "digestPaths", unfollowed := true, recurses := true, apart := false }
def DigestPathsSaid : Prop := digestPathsRow.holds Try.pinned (OpenSpec.ofChange digestPathsSpec)

/-- ITS FALSE NEIGHBOUR: 'it returns false'. Refute it at one input. -/
def digestPathsWrong : ChangeSpec := { name := "digestPaths", fn := fun _ => fun
  | [d1, d2] => { results := [.lit (.bool false)], args := [d1, d2] }
  | _ => none }
def DigestPathsWrongFalsely : Prop := digestPathsRow.holds Try.pinned (OpenSpec.ofChange digestPathsWrong)

/-- 'wireloomlaw01.DigestRefuses': WHATEVER THE INPUT: true; the input reads as it did. -/
def digestRefusesSpec : ChangeSpec := { name := "digestRefuses", fn := fun _ => fun
  | [d1, d2, d3] => { results := [.lit (.bool true)], args := [d1, d2, d3] }
  | _ => none }
def digestRefusesRow : OpenClaim := { program := "ytjmfaebimgnblaa", sum := "472e3123af47a70fcac89719aff63173a10ea70ce7d5b95807d873758435c9f2", func := "wireloom/wireloomlaw01.DigestRefuses", spec := "digestRefuses", unfollowed := true, recurses := true, apart := false }
def DigestRefusesSaid : Prop := digestRefusesRow.holds Try.pinned (OpenSpec.ofChange digestRefusesSpec)

/-- ITS FALSE NEIGHBOUR: 'it returns false'. Refute it at one input. -/
def digestRefusesWrong : ChangeSpec := { name := "digestRefuses", fn := fun _ => fun
  | [d1, d2, d3] => { results := [.lit (.bool false)], args := [d1, d2, d3] }
  | _ => none }
def DigestRefusesWrongFalsely : Prop := digestRefusesRow.holds Try.pinned (OpenSpec.ofChange digestRefusesWrong)

/-- 'wireloomlaw01.DigestChanges': WHATEVER THE INPUT: true; the input reads as it did. -/
def digestChangesSpec : ChangeSpec := { name := "digestChanges", fn := fun _ => fun
  | [d1, d2, d3] => { results := [.lit (.bool true)], args := [d1, d2, d3] }
  | _ => none }
def digestChangesRow : OpenClaim := { program := "ytjmfaebimgnblaa", sum := "472e3123af47a70fcac89719aff63173a10ea70ce7d5b95807d873758435c9f2", func := "wireloom/wireloomlaw01.DigestChanges", spec := "digestChanges", unfollowed := true, recurses := true, apart := false }
def DigestChangesSaid : Prop := digestChangesRow.holds Try.pinned (OpenSpec.ofChange digestChangesSpec)

/-- ITS FALSE NEIGHBOUR: 'it returns false'. Refute it at one input. -/
def digestChangesWrong : ChangeSpec := { name := "digestChanges", fn := fun _ => fun
  | [d1, d2, d3] => { results := [.lit (.bool false)], args := [d1, d2, d3] }
  | _ => none }
def DigestChangesWrongFalsely : Prop := digestChangesRow.holds Try.pinned (OpenSpec.ofChange digestChangesWrong)

/-- 'wireloomlaw01.DigestBinds': WHATEVER THE INPUT: true; the input reads as it did. -/
def digestBindsSpec : ChangeSpec := { name := "digestBinds", fn := fun _ => fun
  | [d1, d2, d3] => { results := [.lit (.bool true)], args := [d1, d2, d3] }
  | _ => none }
def digestBindsRow : OpenClaim := { program := "ytjmfaebimgnblaa", sum := "472e3123af47a70fcac89719aff63173a10ea70ce7d5b95807d873758435c9f2", func := "wireloom/wireloomlaw01.DigestBinds", spec := "digestBinds", unfollowed := true, recurses := true, apart := false }
def DigestBindsSaid : Prop := digestBindsRow.holds Try.pinned (OpenSpec.ofChange digestBindsSpec)

/-- ITS FALSE NEIGHBOUR: 'it returns false'. Refute it at one input. -/
def digestBindsWrong : ChangeSpec := { name := "digestBinds", fn := fun _ => fun
  | [d1, d2, d3] => { results := [.lit (.bool false)], args := [d1, d2, d3] }
  | _ => none }
def DigestBindsWrongFalsely : Prop := digestBindsRow.holds Try.pinned (OpenSpec.ofChange digestBindsWrong)

/-- 'wireloomlaw06.JournalMatchesReference': WHATEVER THE INPUT: true; the input reads as it did. -/
def journalMatchesReferenceSpec : ChangeSpec := { name := "journalMatchesReference", fn := fun _ => fun
  | [d1, d2, d3] => { results := [.lit (.bool true)], args := [d1, d2, d3] }
  | _ => none }
def journalMatchesReferenceRow : OpenClaim := { program := "ytjmfaebimgnblaa", sum := "472e3123af47a70fcac89719aff63173a10ea70ce7d5b95807d873758435c9f2", func := "wireloom/wireloomlaw06.JournalMatchesReference", spec := "journalMatchesReference", unfollowed := true, recurses := true, apart := false }
def JournalMatchesReferenceSaid : Prop := journalMatchesReferenceRow.holds Try.pinned (OpenSpec.ofChange journalMatchesReferenceSpec)

/-- ITS FALSE NEIGHBOUR: 'it returns false'. Refute it at one input. -/
def journalMatchesReferenceWrong : ChangeSpec := { name := "journalMatchesReference", fn := fun _ => fun
  | [d1, d2, d3] => { results := [.lit (.bool false)], args := [d1, d2, d3] }
  | _ => none }
def JournalMatchesReferenceWrongFalsely : Prop := journalMatchesReferenceRow.holds Try.pinned (OpenSpec.ofChange journalMatchesReferenceWrong)

/-- 'wireloomlaw06.JournalRecords': WHATEVER THE INPUT: true; the input reads as it did. -/
def journalRecordsSpec : ChangeSpec := { name := "journalRecords", fn := fun _ => fun
  | [d1, d2] => { results := [.lit (.bool true)], args := [d1, d2] }
  | _ => none }
def journalRecordsRow : OpenClaim := { program := "ytjmfaebimgnblaa", sum := "472e3123af47a70fcac89719aff63173a10ea70ce7d5b95807d873758435c9f2", func := "wireloom/wireloomlaw06.JournalRecords", spec := "journalRecords", unfollowed := true, recurses := true, apart := false }
def JournalRecordsSaid : Prop := journalRecordsRow.holds Try.pinned (OpenSpec.ofChange journalRecordsSpec)

/-- ITS FALSE NEIGHBOUR: 'it returns false'. Refute it at one input. -/
def journalRecordsWrong : ChangeSpec := { name := "journalRecords", fn := fun _ => fun
  | [d1, d2] => { results := [.lit (.bool false)], args := [d1, d2] }
  | _ => none }
def JournalRecordsWrongFalsely : Prop := journalRecordsRow.holds Try.pinned (OpenSpec.ofChange journalRecordsWrong)

/-- 'wireloomlaw06.JournalLosses': WHATEVER THE INPUT: true; the input reads as it did. -/
def journalLossesSpec : ChangeSpec := { name := "journalLosses", fn := fun _ => fun
  | [d1, d2] => { results := [.lit (.bool true)], args := [d1, d2] }
  | _ => none }
def journalLossesRow : OpenClaim := { program := "ytjmfaebimgnblaa", sum := "472e3123af47a70fcac89719aff63173a10ea70ce7d5b95807d873758435c9f2", func := "wireloom/wireloomlaw06.JournalLosses", spec := "journalLosses", unfollowed := true, recurses := true, apart := false }
def JournalLossesSaid : Prop := journalLossesRow.holds Try.pinned (OpenSpec.ofChange journalLossesSpec)

/-- ITS FALSE NEIGHBOUR: 'it returns false'. Refute it at one input. -/
def journalLossesWrong : ChangeSpec := { name := "journalLosses", fn := fun _ => fun
  | [d1, d2] => { results := [.lit (.bool false)], args := [d1, d2] }
  | _ => none }
def JournalLossesWrongFalsely : Prop := journalLossesRow.holds Try.pinned (OpenSpec.ofChange journalLossesWrong)

/-- 'wireloomlaw06.JournalContinues': WHATEVER THE INPUT: true; the input reads as it did. -/
def journalContinuesSpec : ChangeSpec := { name := "journalContinues", fn := fun _ => fun
  | [d1, d2, d3] => { results := [.lit (.bool true)], args := [d1, d2, d3] }
  | _ => none }
def journalContinuesRow : OpenClaim := { program := "ytjmfaebimgnblaa", sum := "472e3123af47a70fcac89719aff63173a10ea70ce7d5b95807d873758435c9f2", func := "wireloom/wireloomlaw06.JournalContinues", spec := "journalContinues", unfollowed := true, recurses := true, apart := false }
def JournalContinuesSaid : Prop := journalContinuesRow.holds Try.pinned (OpenSpec.ofChange journalContinuesSpec)

/-- ITS FALSE NEIGHBOUR: 'it returns false'. Refute it at one input. -/
def journalContinuesWrong : ChangeSpec := { name := "journalContinues", fn := fun _ => fun
  | [d1, d2, d3] => { results := [.lit (.bool false)], args := [d1, d2, d3] }
  | _ => none }
def JournalContinuesWrongFalsely : Prop := journalContinuesRow.holds Try.pinned (OpenSpec.ofChange journalContinuesWrong)

/-- 'wireloomlaw06.JournalDamage': WHATEVER THE INPUT: true; the input reads as it did. -/
def journalDamageSpec : ChangeSpec := { name := "journalDamage", fn := fun _ => fun
  | [d1, d2, d3] => { results := [.lit (.bool true)], args := [d1, d2, d3] }
  | _ => none }
def journalDamageRow : OpenClaim := { program := "ytjmfaebimgnblaa", sum := "472e3123af47a70fcac89719aff63173a10ea70ce7d5b95807d873758435c9f2", func := "wireloom/wireloomlaw06.JournalDamage", spec := "journalDamage", unfollowed := true, recurses := true, apart := false }
def JournalDamageSaid : Prop := journalDamageRow.holds Try.pinned (OpenSpec.ofChange journalDamageSpec)

/-- ITS FALSE NEIGHBOUR: 'it returns false'. Refute it at one input. -/
def journalDamageWrong : ChangeSpec := { name := "journalDamage", fn := fun _ => fun
  | [d1, d2, d3] => { results := [.lit (.bool false)], args := [d1, d2, d3] }
  | _ => none }
def JournalDamageWrongFalsely : Prop := journalDamageRow.holds Try.pinned (OpenSpec.ofChange journalDamageWrong)

/-- 'wireloomlaw06.JournalUnique': WHATEVER THE INPUT: true; the input reads as it did. -/
def journalUniqueSpec : ChangeSpec := { name := "journalUnique", fn := fun _ => fun
  | [d1, d2, d3] => { results := [.lit (.bool true)], args := [d1, d2, d3] }
  | _ => none }
def journalUniqueRow : OpenClaim := { program := "ytjmfaebimgnblaa", sum := "472e3123af47a70fcac89719aff63173a10ea70ce7d5b95807d873758435c9f2", func := "wireloom/wireloomlaw06.JournalUnique", spec := "journalUnique", unfollowed := true, recurses := true, apart := false }
def JournalUniqueSaid : Prop := journalUniqueRow.holds Try.pinned (OpenSpec.ofChange journalUniqueSpec)

/-- ITS FALSE NEIGHBOUR: 'it returns false'. Refute it at one input. -/
def journalUniqueWrong : ChangeSpec := { name := "journalUnique", fn := fun _ => fun
  | [d1, d2, d3] => { results := [.lit (.bool false)], args := [d1, d2, d3] }
  | _ => none }
def JournalUniqueWrongFalsely : Prop := journalUniqueRow.holds Try.pinned (OpenSpec.ofChange journalUniqueWrong)

/-- 'wireloomlaw01.DigestMatchesReference': WHATEVER THE INPUT: true; the input reads as it did. -/
def digestMatchesReferenceSpec : ChangeSpec := { name := "digestMatchesReference", fn := fun _ => fun
  | [d1, d2, d3] => { results := [.lit (.bool true)], args := [d1, d2, d3] }
  | _ => none }
def digestMatchesReferenceRow : OpenClaim := { program := "ytjmfaebimgnblaa", sum := "472e3123af47a70fcac89719aff63173a10ea70ce7d5b95807d873758435c9f2", func := "wireloom/wireloomlaw01.DigestMatchesReference", spec := "digestMatchesReference", unfollowed := true, recurses := true, apart := false }
def DigestMatchesReferenceSaid : Prop := digestMatchesReferenceRow.holds Try.pinned (OpenSpec.ofChange digestMatchesReferenceSpec)

/-- ITS FALSE NEIGHBOUR: 'it returns false'. Refute it at one input. -/
def digestMatchesReferenceWrong : ChangeSpec := { name := "digestMatchesReference", fn := fun _ => fun
  | [d1, d2, d3] => { results := [.lit (.bool false)], args := [d1, d2, d3] }
  | _ => none }
def DigestMatchesReferenceWrongFalsely : Prop := digestMatchesReferenceRow.holds Try.pinned (OpenSpec.ofChange digestMatchesReferenceWrong)

/-- 'wireloomlaw01.DigestOneChange': WHATEVER THE INPUT: true; the input reads as it did. -/
def digestOneChangeSpec : ChangeSpec := { name := "digestOneChange", fn := fun _ => fun
  | [d1, d2, d3] => { results := [.lit (.bool true)], args := [d1, d2, d3] }
  | _ => none }
def digestOneChangeRow : OpenClaim := { program := "ytjmfaebimgnblaa", sum := "472e3123af47a70fcac89719aff63173a10ea70ce7d5b95807d873758435c9f2", func := "wireloom/wireloomlaw01.DigestOneChange", spec := "digestOneChange", unfollowed := true, recurses := true, apart := false }
def DigestOneChangeSaid : Prop := digestOneChangeRow.holds Try.pinned (OpenSpec.ofChange digestOneChangeSpec)

/-- ITS FALSE NEIGHBOUR: 'it returns false'. Refute it at one input. -/
def digestOneChangeWrong : ChangeSpec := { name := "digestOneChange", fn := fun _ => fun
  | [d1, d2, d3] => { results := [.lit (.bool false)], args := [d1, d2, d3] }
  | _ => none }
def DigestOneChangeWrongFalsely : Prop := digestOneChangeRow.holds Try.pinned (OpenSpec.ofChange digestOneChangeWrong)

/- THE SECOND FORM. 'bulk': how many values and letters a reading holds, each counted each time it is reached (what is shared counts as often as it is met; a slice's spare places count too). A statement '..UptoSaid' is the law's where the arguments, and the package variables that the reading takes, are together of bulk at most 1048576: NARROWER than '..Said'. Prove '..Said' where nothing that the law and all that it calls make is longer than what came in: it says more and counts as full. Else prove '..UptoSaid'. A law counts once. -/
mutual
def uptoBulk {H : Type} : DataW H → Nat
  | .lit (.string bytes) => bytes.length + 1
  | .lit _ => 1
  | .nil => 1
  | .ptr d => uptoBulk d + 1
  | .slice elems spare => uptoBulkAll elems + uptoBulkAll spare + 1
  | .agg parts => uptoBulkAll parts + 1
  | .iface _ d => uptoBulk d + 1
  | .map entries => uptoBulkEntries entries + 1
  | .held _ => 1
def uptoBulkAll {H : Type} : List (DataW H) → Nat
  | [] => 0
  | d :: r => uptoBulk d + uptoBulkAll r
def uptoBulkEntries {H : Type} : List (Lit × DataW H) → Nat
  | [] => 0
  | x :: r => uptoBulkEntry x + uptoBulkEntries r
def uptoBulkEntry {H : Type} : Lit × DataW H → Nat
  | (.string bytes, d) => bytes.length + uptoBulk d + 1
  | (_, d) => uptoBulk d + 1
 end
def uptoSmall : (H : Type) → List (DataW H) → Bool := fun _ ds => decide (uptoBulkAll ds ≤ 1048576)
def OpenSpec.upto (s : _root_.Go.ChangeSpec) : _root_.Go.OpenSpec := { _root_.Go.OpenSpec.ofChange s with cond := some uptoSmall }

/-- 'wireloomlaw01.DigestPaths', WHERE WHAT IT READS IS OF BULK AT MOST 1048576: true; the input reads as it did. -/
def digestPathsUptoRow : OpenClaim := { program := "ytjmfaebimgnblaa", sum := "472e3123af47a70fcac89719aff63173a10ea70ce7d5b95807d873758435c9f2", func := "wireloom/wireloomlaw01.DigestPaths", spec := "digestPaths", unfollowed := true, recurses := true, apart := false, narrowed := true }
def DigestPathsUptoSaid : Prop := digestPathsUptoRow.holds Try.pinned (OpenSpec.upto digestPathsSpec)

/-- 'wireloomlaw01.DigestRefuses', WHERE WHAT IT READS IS OF BULK AT MOST 1048576: true; the input reads as it did. -/
def digestRefusesUptoRow : OpenClaim := { program := "ytjmfaebimgnblaa", sum := "472e3123af47a70fcac89719aff63173a10ea70ce7d5b95807d873758435c9f2", func := "wireloom/wireloomlaw01.DigestRefuses", spec := "digestRefuses", unfollowed := true, recurses := true, apart := false, narrowed := true }
def DigestRefusesUptoSaid : Prop := digestRefusesUptoRow.holds Try.pinned (OpenSpec.upto digestRefusesSpec)

/-- 'wireloomlaw01.DigestChanges', WHERE WHAT IT READS IS OF BULK AT MOST 1048576: true; the input reads as it did. -/
def digestChangesUptoRow : OpenClaim := { program := "ytjmfaebimgnblaa", sum := "472e3123af47a70fcac89719aff63173a10ea70ce7d5b95807d873758435c9f2", func := "wireloom/wireloomlaw01.DigestChanges", spec := "digestChanges", unfollowed := true, recurses := true, apart := false, narrowed := true }
def DigestChangesUptoSaid : Prop := digestChangesUptoRow.holds Try.pinned (OpenSpec.upto digestChangesSpec)

/-- 'wireloomlaw01.DigestBinds', WHERE WHAT IT READS IS OF BULK AT MOST 1048576: true; the input reads as it did. -/
def digestBindsUptoRow : OpenClaim := { program := "ytjmfaebimgnblaa", sum := "472e3123af47a70fcac89719aff63173a10ea70ce7d5b95807d873758435c9f2", func := "wireloom/wireloomlaw01.DigestBinds", spec := "digestBinds", unfollowed := true, recurses := true, apart := false, narrowed := true }
def DigestBindsUptoSaid : Prop := digestBindsUptoRow.holds Try.pinned (OpenSpec.upto digestBindsSpec)

/-- 'wireloomlaw06.JournalMatchesReference', WHERE WHAT IT READS IS OF BULK AT MOST 1048576: true; the input reads as it did. -/
def journalMatchesReferenceUptoRow : OpenClaim := { program := "ytjmfaebimgnblaa", sum := "472e3123af47a70fcac89719aff63173a10ea70ce7d5b95807d873758435c9f2", func := "wireloom/wireloomlaw06.JournalMatchesReference", spec := "journalMatchesReference", unfollowed := true, recurses := true, apart := false, narrowed := true }
def JournalMatchesReferenceUptoSaid : Prop := journalMatchesReferenceUptoRow.holds Try.pinned (OpenSpec.upto journalMatchesReferenceSpec)

/-- 'wireloomlaw06.JournalRecords', WHERE WHAT IT READS IS OF BULK AT MOST 1048576: true; the input reads as it did. -/
def journalRecordsUptoRow : OpenClaim := { program := "ytjmfaebimgnblaa", sum := "472e3123af47a70fcac89719aff63173a10ea70ce7d5b95807d873758435c9f2", func := "wireloom/wireloomlaw06.JournalRecords", spec := "journalRecords", unfollowed := true, recurses := true, apart := false, narrowed := true }
def JournalRecordsUptoSaid : Prop := journalRecordsUptoRow.holds Try.pinned (OpenSpec.upto journalRecordsSpec)

/-- 'wireloomlaw06.JournalLosses', WHERE WHAT IT READS IS OF BULK AT MOST 1048576: true; the input reads as it did. -/
def journalLossesUptoRow : OpenClaim := { program := "ytjmfaebimgnblaa", sum := "472e3123af47a70fcac89719aff63173a10ea70ce7d5b95807d873758435c9f2", func := "wireloom/wireloomlaw06.JournalLosses", spec := "journalLosses", unfollowed := true, recurses := true, apart := false, narrowed := true }
def JournalLossesUptoSaid : Prop := journalLossesUptoRow.holds Try.pinned (OpenSpec.upto journalLossesSpec)

/-- 'wireloomlaw06.JournalContinues', WHERE WHAT IT READS IS OF BULK AT MOST 1048576: true; the input reads as it did. -/
def journalContinuesUptoRow : OpenClaim := { program := "ytjmfaebimgnblaa", sum := "472e3123af47a70fcac89719aff63173a10ea70ce7d5b95807d873758435c9f2", func := "wireloom/wireloomlaw06.JournalContinues", spec := "journalContinues", unfollowed := true, recurses := true, apart := false, narrowed := true }
def JournalContinuesUptoSaid : Prop := journalContinuesUptoRow.holds Try.pinned (OpenSpec.upto journalContinuesSpec)

/-- 'wireloomlaw06.JournalDamage', WHERE WHAT IT READS IS OF BULK AT MOST 1048576: true; the input reads as it did. -/
def journalDamageUptoRow : OpenClaim := { program := "ytjmfaebimgnblaa", sum := "472e3123af47a70fcac89719aff63173a10ea70ce7d5b95807d873758435c9f2", func := "wireloom/wireloomlaw06.JournalDamage", spec := "journalDamage", unfollowed := true, recurses := true, apart := false, narrowed := true }
def JournalDamageUptoSaid : Prop := journalDamageUptoRow.holds Try.pinned (OpenSpec.upto journalDamageSpec)

/-- 'wireloomlaw06.JournalUnique', WHERE WHAT IT READS IS OF BULK AT MOST 1048576: true; the input reads as it did. -/
def journalUniqueUptoRow : OpenClaim := { program := "ytjmfaebimgnblaa", sum := "472e3123af47a70fcac89719aff63173a10ea70ce7d5b95807d873758435c9f2", func := "wireloom/wireloomlaw06.JournalUnique", spec := "journalUnique", unfollowed := true, recurses := true, apart := false, narrowed := true }
def JournalUniqueUptoSaid : Prop := journalUniqueUptoRow.holds Try.pinned (OpenSpec.upto journalUniqueSpec)

/-- 'wireloomlaw01.DigestMatchesReference', WHERE WHAT IT READS IS OF BULK AT MOST 1048576: true; the input reads as it did. -/
def digestMatchesReferenceUptoRow : OpenClaim := { program := "ytjmfaebimgnblaa", sum := "472e3123af47a70fcac89719aff63173a10ea70ce7d5b95807d873758435c9f2", func := "wireloom/wireloomlaw01.DigestMatchesReference", spec := "digestMatchesReference", unfollowed := true, recurses := true, apart := false, narrowed := true }
def DigestMatchesReferenceUptoSaid : Prop := digestMatchesReferenceUptoRow.holds Try.pinned (OpenSpec.upto digestMatchesReferenceSpec)

/-- 'wireloomlaw01.DigestOneChange', WHERE WHAT IT READS IS OF BULK AT MOST 1048576: true; the input reads as it did. -/
def digestOneChangeUptoRow : OpenClaim := { program := "ytjmfaebimgnblaa", sum := "472e3123af47a70fcac89719aff63173a10ea70ce7d5b95807d873758435c9f2", func := "wireloom/wireloomlaw01.DigestOneChange", spec := "digestOneChange", unfollowed := true, recurses := true, apart := false, narrowed := true }
def DigestOneChangeUptoSaid : Prop := digestOneChangeUptoRow.holds Try.pinned (OpenSpec.upto digestOneChangeSpec)

end Rows
end Go.Proofs.Ytjmfaebimgnblaa
