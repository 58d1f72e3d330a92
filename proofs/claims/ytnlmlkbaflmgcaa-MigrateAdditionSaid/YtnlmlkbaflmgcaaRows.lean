/-
  No cell of these rows narrows 'for every input' (looked for: loops, veiled, ifaces, maps, wideKeys, modest, calm, conditions, laid).
  DERIVED. THE GIVEN ROWS OF THIS SEAT. 5 by the template 'for every input the law returns true; each argument reads behind the call as it read before'; 0 by the template 'total and deterministic' (their statements: YtnlmlkbaflmgcaaTotals.lean).
  GIVEN WITH THE SEED: the statements are not yours to turn. If you find one false, say at which input.
  Laid BY PROGRAM, IN A SANDBOX (cutbox-rows.mjs): the forced cells as the released guide's own fill.sh prints them over the translation 0049df2f2b73edaf… (all of the seat's roots in one cut). By AI agents, Wed Nov 11 2026. No macro, syntax, notation, axiom, sorry.
-/
import Derived.Test.YtnlmlkbaflmgcaaChecked
import GoSem.Claim
import GoSem.ClaimJoined
import GoSem.ClaimMapViews
import Derived.JoinedTies
import Derived.KernelRfl
namespace Go.Proofs.Ytnlmlkbaflmgcaa
/- THE CELL 'sum', in the pinned program and in every row, IS THE sha256 OF THE DUMP (.gsa) THAT YtnlmlkbaflmgcaaProg.lean LOADS. Nothing in Lean hashes anything: it is a label: what it is worth is what the hold of that sum in a sandbox is worth. -/
noncomputable def Try.pinned : Pinned := { name := "ytnlmlkbaflmgcaa", sum := "0049df2f2b73edafad1bc6d4024e2c10cac080dc99df2f8b258f4e5875b76262", checked := Try.checked }
namespace Rows
def none {H : Type} : Left H := { results := [], args := [] }

/-- 'wireloomlaw15.MigrateMatchesReference': WHATEVER THE INPUT: true; the input reads as it did. -/
def migrateMatchesReferenceSpec : ChangeSpec := { name := "migrateMatchesReference", fn := fun _ => fun
  | [d] => { results := [.lit (.bool true)], args := [d] }
  | _ => none }
def migrateMatchesReferenceRow : OpenClaim := { program := "ytnlmlkbaflmgcaa", sum := "0049df2f2b73edafad1bc6d4024e2c10cac080dc99df2f8b258f4e5875b76262", func := "wireloom/wireloomlaw15.MigrateMatchesReference", spec := "migrateMatchesReference", unfollowed := true, recurses := true, apart := false }
def MigrateMatchesReferenceSaid : Prop := migrateMatchesReferenceRow.holds Try.pinned (OpenSpec.ofChange migrateMatchesReferenceSpec)

/-- ITS FALSE NEIGHBOUR: 'it returns false'. Refute it at one input. -/
def migrateMatchesReferenceWrong : ChangeSpec := { name := "migrateMatchesReference", fn := fun _ => fun
  | [d] => { results := [.lit (.bool false)], args := [d] }
  | _ => none }
def MigrateMatchesReferenceWrongFalsely : Prop := migrateMatchesReferenceRow.holds Try.pinned (OpenSpec.ofChange migrateMatchesReferenceWrong)

/-- 'wireloomlaw15.MigrateIdentity': WHATEVER THE INPUT: true; the input reads as it did. -/
def migrateIdentitySpec : ChangeSpec := { name := "migrateIdentity", fn := fun _ => fun
  | [d] => { results := [.lit (.bool true)], args := [d] }
  | _ => none }
def migrateIdentityRow : OpenClaim := { program := "ytnlmlkbaflmgcaa", sum := "0049df2f2b73edafad1bc6d4024e2c10cac080dc99df2f8b258f4e5875b76262", func := "wireloom/wireloomlaw15.MigrateIdentity", spec := "migrateIdentity", unfollowed := true, recurses := true, apart := false }
def MigrateIdentitySaid : Prop := migrateIdentityRow.holds Try.pinned (OpenSpec.ofChange migrateIdentitySpec)

/-- ITS FALSE NEIGHBOUR: 'it returns false'. Refute it at one input. -/
def migrateIdentityWrong : ChangeSpec := { name := "migrateIdentity", fn := fun _ => fun
  | [d] => { results := [.lit (.bool false)], args := [d] }
  | _ => none }
def MigrateIdentityWrongFalsely : Prop := migrateIdentityRow.holds Try.pinned (OpenSpec.ofChange migrateIdentityWrong)

/-- 'wireloomlaw15.MigrateWords': WHATEVER THE INPUT: true; the input reads as it did. -/
def migrateWordsSpec : ChangeSpec := { name := "migrateWords", fn := fun _ => fun
  | [d] => { results := [.lit (.bool true)], args := [d] }
  | _ => none }
def migrateWordsRow : OpenClaim := { program := "ytnlmlkbaflmgcaa", sum := "0049df2f2b73edafad1bc6d4024e2c10cac080dc99df2f8b258f4e5875b76262", func := "wireloom/wireloomlaw15.MigrateWords", spec := "migrateWords", unfollowed := true, recurses := true, apart := false }
def MigrateWordsSaid : Prop := migrateWordsRow.holds Try.pinned (OpenSpec.ofChange migrateWordsSpec)

/-- ITS FALSE NEIGHBOUR: 'it returns false'. Refute it at one input. -/
def migrateWordsWrong : ChangeSpec := { name := "migrateWords", fn := fun _ => fun
  | [d] => { results := [.lit (.bool false)], args := [d] }
  | _ => none }
def MigrateWordsWrongFalsely : Prop := migrateWordsRow.holds Try.pinned (OpenSpec.ofChange migrateWordsWrong)

/-- 'wireloomlaw15.MigrateAddition': WHATEVER THE INPUT: true; the input reads as it did. -/
def migrateAdditionSpec : ChangeSpec := { name := "migrateAddition", fn := fun _ => fun
  | [d1, d2, d3] => { results := [.lit (.bool true)], args := [d1, d2, d3] }
  | _ => none }
def migrateAdditionRow : OpenClaim := { program := "ytnlmlkbaflmgcaa", sum := "0049df2f2b73edafad1bc6d4024e2c10cac080dc99df2f8b258f4e5875b76262", func := "wireloom/wireloomlaw15.MigrateAddition", spec := "migrateAddition", unfollowed := true, recurses := true, apart := false }
def MigrateAdditionSaid : Prop := migrateAdditionRow.holds Try.pinned (OpenSpec.ofChange migrateAdditionSpec)

/-- ITS FALSE NEIGHBOUR: 'it returns false'. Refute it at one input. -/
def migrateAdditionWrong : ChangeSpec := { name := "migrateAddition", fn := fun _ => fun
  | [d1, d2, d3] => { results := [.lit (.bool false)], args := [d1, d2, d3] }
  | _ => none }
def MigrateAdditionWrongFalsely : Prop := migrateAdditionRow.holds Try.pinned (OpenSpec.ofChange migrateAdditionWrong)

/-- 'wireloomlaw15.MigrateStates': WHATEVER THE INPUT: true; the input reads as it did. -/
def migrateStatesSpec : ChangeSpec := { name := "migrateStates", fn := fun _ => fun
  | [d] => { results := [.lit (.bool true)], args := [d] }
  | _ => none }
def migrateStatesRow : OpenClaim := { program := "ytnlmlkbaflmgcaa", sum := "0049df2f2b73edafad1bc6d4024e2c10cac080dc99df2f8b258f4e5875b76262", func := "wireloom/wireloomlaw15.MigrateStates", spec := "migrateStates", unfollowed := true, recurses := true, apart := false }
def MigrateStatesSaid : Prop := migrateStatesRow.holds Try.pinned (OpenSpec.ofChange migrateStatesSpec)

/-- ITS FALSE NEIGHBOUR: 'it returns false'. Refute it at one input. -/
def migrateStatesWrong : ChangeSpec := { name := "migrateStates", fn := fun _ => fun
  | [d] => { results := [.lit (.bool false)], args := [d] }
  | _ => none }
def MigrateStatesWrongFalsely : Prop := migrateStatesRow.holds Try.pinned (OpenSpec.ofChange migrateStatesWrong)

/- THE SECOND FORM. 'bulk': how many values and letters a reading holds, each counted each time it is reached (what is shared counts as often as it is met; a slice's spare places count too). A statement '..UptoSaid' is the law's where the arguments, and the package variables that the reading takes, are together of bulk at most 1048576: NARROWER than '..Said'. Prove '..Said' where nothing that the law and all that it calls make is longer than what came in: it says more and counts as full. Else prove '..UptoSaid'. A law counts once. -/
mutual
def uptoBulk {H : Type} : DataW H → Nat
  | .lit (.string bytes) => bytes.length + 1
  | .lit _ => 1
  | .nil => 1
  | .ptr d => uptoBulk d + 1
  | .slice elems spare => uptoBulkAll elems + uptoBulkAll spare + 1
  | .agg parts => uptoBulkAll parts + 1
  | .iface _ d => uptoBulk d + 1
  | .map entries => uptoBulkEntries entries + 1
  | .held _ => 1
def uptoBulkAll {H : Type} : List (DataW H) → Nat
  | [] => 0
  | d :: r => uptoBulk d + uptoBulkAll r
def uptoBulkEntries {H : Type} : List (Lit × DataW H) → Nat
  | [] => 0
  | x :: r => uptoBulkEntry x + uptoBulkEntries r
def uptoBulkEntry {H : Type} : Lit × DataW H → Nat
  | (.string bytes, d) => bytes.length + uptoBulk d + 1
  | (_, d) => uptoBulk d + 1
 end
def uptoSmall : (H : Type) → List (DataW H) → Bool := fun _ ds => decide (uptoBulkAll ds ≤ 1048576)
def OpenSpec.upto (s : _root_.Go.ChangeSpec) : _root_.Go.OpenSpec := { _root_.Go.OpenSpec.ofChange s with cond := some uptoSmall }

/-- 'wireloomlaw15.MigrateMatchesReference', WHERE WHAT IT READS IS OF BULK AT MOST 1048576: true; the input reads as it did. -/
def migrateMatchesReferenceUptoRow : OpenClaim := { program := "ytnlmlkbaflmgcaa", sum := "0049df2f2b73edafad1bc6d4024e2c10cac080dc99df2f8b258f4e5875b76262", func := "wireloom/wireloomlaw15.MigrateMatchesReference", spec := "migrateMatchesReference", unfollowed := true, recurses := true, apart := false, narrowed := true }
def MigrateMatchesReferenceUptoSaid : Prop := migrateMatchesReferenceUptoRow.holds Try.pinned (OpenSpec.upto migrateMatchesReferenceSpec)

/-- 'wireloomlaw15.MigrateIdentity', WHERE WHAT IT READS IS OF BULK AT MOST 1048576: true; the input reads as it did. -/
def migrateIdentityUptoRow : OpenClaim := { program := "ytnlmlkbaflmgcaa", sum := "0049df2f2b73edafad1bc6d4024e2c10cac080dc99df2f8b258f4e5875b76262", func := "wireloom/wireloomlaw15.MigrateIdentity", spec := "migrateIdentity", unfollowed := true, recurses := true, apart := false, narrowed := true }
def MigrateIdentityUptoSaid : Prop := migrateIdentityUptoRow.holds Try.pinned (OpenSpec.upto migrateIdentitySpec)

/-- 'wireloomlaw15.MigrateWords', WHERE WHAT IT READS IS OF BULK AT MOST 1048576: true; the input reads as it did. -/
def migrateWordsUptoRow : OpenClaim := { program := "ytnlmlkbaflmgcaa", sum := "0049df2f2b73edafad1bc6d4024e2c10cac080dc99df2f8b258f4e5875b76262", func := "wireloom/wireloomlaw15.MigrateWords", spec := "migrateWords", unfollowed := true, recurses := true, apart := false, narrowed := true }
def MigrateWordsUptoSaid : Prop := migrateWordsUptoRow.holds Try.pinned (OpenSpec.upto migrateWordsSpec)

/-- 'wireloomlaw15.MigrateAddition', WHERE WHAT IT READS IS OF BULK AT MOST 1048576: true; the input reads as it did. -/
def migrateAdditionUptoRow : OpenClaim := { program := "ytnlmlkbaflmgcaa", sum := "0049df2f2b73edafad1bc6d4024e2c10cac080dc99df2f8b258f4e5875b76262", func := "wireloom/wireloomlaw15.MigrateAddition", spec := "migrateAddition", unfollowed := true, recurses := true, apart := false, narrowed := true }
def MigrateAdditionUptoSaid : Prop := migrateAdditionUptoRow.holds Try.pinned (OpenSpec.upto migrateAdditionSpec)

/-- 'wireloomlaw15.MigrateStates', WHERE WHAT IT READS IS OF BULK AT MOST 1048576: true; the input reads as it did. -/
def migrateStatesUptoRow : OpenClaim := { program := "ytnlmlkbaflmgcaa", sum := "0049df2f2b73edafad1bc6d4024e2c10cac080dc99df2f8b258f4e5875b76262", func := "wireloom/wireloomlaw15.MigrateStates", spec := "migrateStates", unfollowed := true, recurses := true, apart := false, narrowed := true }
def MigrateStatesUptoSaid : Prop := migrateStatesUptoRow.holds Try.pinned (OpenSpec.upto migrateStatesSpec)

end Rows
end Go.Proofs.Ytnlmlkbaflmgcaa
