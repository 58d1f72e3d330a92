/-
  No cell of these rows narrows 'for every input' (looked for: loops, veiled, ifaces, maps, wideKeys, modest, calm, conditions, laid).
  DERIVED. THE GIVEN ROWS OF THIS SEAT. 4 by the template 'for every input the law returns true; each argument reads behind the call as it read before'; 0 by the template 'total and deterministic' (their statements: YtgmpoenfoacofaaGreatTotals.lean).
  GIVEN WITH THE SEED: the statements are not yours to turn. If you find one false, say at which input.
  Laid BY PROGRAM, IN A SANDBOX (cutbox-rows.mjs): the forced cells as the released guide's own fill.sh prints them over the translation daa6ed39f6f1fef6… (all of the seat's roots in one cut). By AI agents, Wed Nov 11 2026. No macro, syntax, notation, axiom, sorry.
-/
import Derived.Test.YtgmpoenfoacofaaGreatChecked
import GoSem.Claim
import GoSem.ClaimJoined
import GoSem.ClaimMapViews
import Derived.JoinedTies
import Derived.KernelRfl
namespace Go.Proofs.YtgmpoenfoacofaaGreat
/- THE CELL 'sum', in the pinned program and in every row, IS THE sha256 OF THE DUMP (.gsa) THAT YtgmpoenfoacofaaGreatProg.lean LOADS. Nothing in Lean hashes anything: it is a label: what it is worth is what the hold of that sum in a sandbox is worth. -/
noncomputable def Tryz.pinned : Pinned := { name := "ytgmpoenfoacofaagreat", sum := "daa6ed39f6f1fef67f67e823ed21493e63244cfef2f8d6559e1fee438a5bc137", checked := Tryz.checked }
namespace Rows
def none {H : Type} : Left H := { results := [], args := [] }

/-- 'wireloomlaw52.ShadowMatchesReference': WHATEVER THE INPUT: true; the input reads as it did. -/
def shadowMatchesReferenceSpec : ChangeSpec := { name := "shadowMatchesReference", fn := fun _ => fun
  | [d1, d2, d3] => { results := [.lit (.bool true)], args := [d1, d2, d3] }
  | _ => none }
def shadowMatchesReferenceRow : OpenClaim := { program := "ytgmpoenfoacofaagreat", sum := "daa6ed39f6f1fef67f67e823ed21493e63244cfef2f8d6559e1fee438a5bc137", func := "wireloom/wireloomlaw52.ShadowMatchesReference", spec := "shadowMatchesReference", unfollowed := true, recurses := true, apart := false }
def ShadowMatchesReferenceSaid : Prop := shadowMatchesReferenceRow.holds Tryz.pinned (OpenSpec.ofChange shadowMatchesReferenceSpec)

/-- ITS FALSE NEIGHBOUR: 'it returns false'. Refute it at one input. -/
def shadowMatchesReferenceWrong : ChangeSpec := { name := "shadowMatchesReference", fn := fun _ => fun
  | [d1, d2, d3] => { results := [.lit (.bool false)], args := [d1, d2, d3] }
  | _ => none }
def ShadowMatchesReferenceWrongFalsely : Prop := shadowMatchesReferenceRow.holds Tryz.pinned (OpenSpec.ofChange shadowMatchesReferenceWrong)

/-- 'wireloomlaw52.ShadowSelf': WHATEVER THE INPUT: true; the input reads as it did. -/
def shadowSelfSpec : ChangeSpec := { name := "shadowSelf", fn := fun _ => fun
  | [d1, d2, d3] => { results := [.lit (.bool true)], args := [d1, d2, d3] }
  | _ => none }
def shadowSelfRow : OpenClaim := { program := "ytgmpoenfoacofaagreat", sum := "daa6ed39f6f1fef67f67e823ed21493e63244cfef2f8d6559e1fee438a5bc137", func := "wireloom/wireloomlaw52.ShadowSelf", spec := "shadowSelf", unfollowed := true, recurses := true, apart := false }
def ShadowSelfSaid : Prop := shadowSelfRow.holds Tryz.pinned (OpenSpec.ofChange shadowSelfSpec)

/-- ITS FALSE NEIGHBOUR: 'it returns false'. Refute it at one input. -/
def shadowSelfWrong : ChangeSpec := { name := "shadowSelf", fn := fun _ => fun
  | [d1, d2, d3] => { results := [.lit (.bool false)], args := [d1, d2, d3] }
  | _ => none }
def ShadowSelfWrongFalsely : Prop := shadowSelfRow.holds Tryz.pinned (OpenSpec.ofChange shadowSelfWrong)

/-- 'wireloomlaw52.ShadowPersists': WHATEVER THE INPUT: true; the input reads as it did. -/
def shadowPersistsSpec : ChangeSpec := { name := "shadowPersists", fn := fun _ => fun
  | [d1, d2, d3] => { results := [.lit (.bool true)], args := [d1, d2, d3] }
  | _ => none }
def shadowPersistsRow : OpenClaim := { program := "ytgmpoenfoacofaagreat", sum := "daa6ed39f6f1fef67f67e823ed21493e63244cfef2f8d6559e1fee438a5bc137", func := "wireloom/wireloomlaw52.ShadowPersists", spec := "shadowPersists", unfollowed := true, recurses := true, apart := false }
def ShadowPersistsSaid : Prop := shadowPersistsRow.holds Tryz.pinned (OpenSpec.ofChange shadowPersistsSpec)

/-- ITS FALSE NEIGHBOUR: 'it returns false'. Refute it at one input. -/
def shadowPersistsWrong : ChangeSpec := { name := "shadowPersists", fn := fun _ => fun
  | [d1, d2, d3] => { results := [.lit (.bool false)], args := [d1, d2, d3] }
  | _ => none }
def ShadowPersistsWrongFalsely : Prop := shadowPersistsRow.holds Tryz.pinned (OpenSpec.ofChange shadowPersistsWrong)

/-- 'wireloomlaw52.ShadowDetects': WHATEVER THE INPUT: true; the input reads as it did. -/
def shadowDetectsSpec : ChangeSpec := { name := "shadowDetects", fn := fun _ => fun
  | [d1, d2, d3] => { results := [.lit (.bool true)], args := [d1, d2, d3] }
  | _ => none }
def shadowDetectsRow : OpenClaim := { program := "ytgmpoenfoacofaagreat", sum := "daa6ed39f6f1fef67f67e823ed21493e63244cfef2f8d6559e1fee438a5bc137", func := "wireloom/wireloomlaw52.ShadowDetects", spec := "shadowDetects", unfollowed := true, recurses := true, apart := false }
def ShadowDetectsSaid : Prop := shadowDetectsRow.holds Tryz.pinned (OpenSpec.ofChange shadowDetectsSpec)

/-- ITS FALSE NEIGHBOUR: 'it returns false'. Refute it at one input. -/
def shadowDetectsWrong : ChangeSpec := { name := "shadowDetects", fn := fun _ => fun
  | [d1, d2, d3] => { results := [.lit (.bool false)], args := [d1, d2, d3] }
  | _ => none }
def ShadowDetectsWrongFalsely : Prop := shadowDetectsRow.holds Tryz.pinned (OpenSpec.ofChange shadowDetectsWrong)

/- THE SECOND FORM. 'bulk': how many values and letters a reading holds, each counted each time it is reached (what is shared counts as often as it is met; a slice's spare places count too). A statement '..UptoSaid' is the law's where the arguments, and the package variables that the reading takes, are together of bulk at most 1048576: NARROWER than '..Said'. Prove '..Said' where nothing that the law and all that it calls make is longer than what came in: it says more and counts as full. Else prove '..UptoSaid'. A law counts once. -/
mutual
def uptoBulk {H : Type} : DataW H → Nat
  | .lit (.string bytes) => bytes.length + 1
  | .lit _ => 1
  | .nil => 1
  | .ptr d => uptoBulk d + 1
  | .slice elems spare => uptoBulkAll elems + uptoBulkAll spare + 1
  | .agg parts => uptoBulkAll parts + 1
  | .iface _ d => uptoBulk d + 1
  | .map entries => uptoBulkEntries entries + 1
  | .held _ => 1
def uptoBulkAll {H : Type} : List (DataW H) → Nat
  | [] => 0
  | d :: r => uptoBulk d + uptoBulkAll r
def uptoBulkEntries {H : Type} : List (Lit × DataW H) → Nat
  | [] => 0
  | x :: r => uptoBulkEntry x + uptoBulkEntries r
def uptoBulkEntry {H : Type} : Lit × DataW H → Nat
  | (.string bytes, d) => bytes.length + uptoBulk d + 1
  | (_, d) => uptoBulk d + 1
 end
def uptoSmall : (H : Type) → List (DataW H) → Bool := fun _ ds => decide (uptoBulkAll ds ≤ 1048576)
def OpenSpec.upto (s : _root_.Go.ChangeSpec) : _root_.Go.OpenSpec := { _root_.Go.OpenSpec.ofChange s with cond := some uptoSmall }

/-- 'wireloomlaw52.ShadowMatchesReference', WHERE WHAT IT READS IS OF BULK AT MOST 1048576: true; the input reads as it did. -/
def shadowMatchesReferenceUptoRow : OpenClaim := { program := "ytgmpoenfoacofaagreat", sum := "daa6ed39f6f1fef67f67e823ed21493e63244cfef2f8d6559e1fee438a5bc137", func := "wireloom/wireloomlaw52.ShadowMatchesReference", spec := "shadowMatchesReference", unfollowed := true, recurses := true, apart := false, narrowed := true }
def ShadowMatchesReferenceUptoSaid : Prop := shadowMatchesReferenceUptoRow.holds Tryz.pinned (OpenSpec.upto shadowMatchesReferenceSpec)

/-- 'wireloomlaw52.ShadowSelf', WHERE WHAT IT READS IS OF BULK AT MOST 1048576: true; the input reads as it did. -/
def shadowSelfUptoRow : OpenClaim := { program := "ytgmpoenfoacofaagreat", sum := "daa6ed39f6f1fef67f67e823ed21493e63244cfef2f8d6559e1fee438a5bc137", func := "wireloom/wireloomlaw52.ShadowSelf", spec := "shadowSelf", unfollowed := true, recurses := true, apart := false, narrowed := true }
def ShadowSelfUptoSaid : Prop := shadowSelfUptoRow.holds Tryz.pinned (OpenSpec.upto shadowSelfSpec)

/-- 'wireloomlaw52.ShadowPersists', WHERE WHAT IT READS IS OF BULK AT MOST 1048576: true; the input reads as it did. -/
def shadowPersistsUptoRow : OpenClaim := { program := "ytgmpoenfoacofaagreat", sum := "daa6ed39f6f1fef67f67e823ed21493e63244cfef2f8d6559e1fee438a5bc137", func := "wireloom/wireloomlaw52.ShadowPersists", spec := "shadowPersists", unfollowed := true, recurses := true, apart := false, narrowed := true }
def ShadowPersistsUptoSaid : Prop := shadowPersistsUptoRow.holds Tryz.pinned (OpenSpec.upto shadowPersistsSpec)

/-- 'wireloomlaw52.ShadowDetects', WHERE WHAT IT READS IS OF BULK AT MOST 1048576: true; the input reads as it did. -/
def shadowDetectsUptoRow : OpenClaim := { program := "ytgmpoenfoacofaagreat", sum := "daa6ed39f6f1fef67f67e823ed21493e63244cfef2f8d6559e1fee438a5bc137", func := "wireloom/wireloomlaw52.ShadowDetects", spec := "shadowDetects", unfollowed := true, recurses := true, apart := false, narrowed := true }
def ShadowDetectsUptoSaid : Prop := shadowDetectsUptoRow.holds Tryz.pinned (OpenSpec.upto shadowDetectsSpec)

end Rows
end Go.Proofs.YtgmpoenfoacofaaGreat
