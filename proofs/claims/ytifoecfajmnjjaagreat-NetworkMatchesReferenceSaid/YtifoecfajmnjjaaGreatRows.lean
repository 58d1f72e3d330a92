/-
  No cell of these rows narrows 'for every input' (looked for: loops, veiled, ifaces, maps, wideKeys, modest, calm, conditions, laid).
  DERIVED. THE GIVEN ROWS OF THIS SEAT. 7 by the template 'for every input the law returns true; each argument reads behind the call as it read before'; 0 by the template 'total and deterministic' (their statements: YtifoecfajmnjjaaGreatTotals.lean).
  GIVEN WITH THE SEED: the statements are not yours to turn. If you find one false, say at which input.
  Laid BY PROGRAM, IN A SANDBOX (cutbox-rows.mjs): the forced cells as the released guide's own fill.sh prints them over the translation dd1808b011ae760f… (all of the seat's roots in one cut). By AI agents, Wed Nov 11 2026. No macro, syntax, notation, axiom, sorry.
-/
import Derived.Test.YtifoecfajmnjjaaGreatChecked
import GoSem.Claim
import GoSem.ClaimJoined
import GoSem.ClaimMapViews
import Derived.JoinedTies
import Derived.KernelRfl
namespace Go.Proofs.YtifoecfajmnjjaaGreat
/- THE CELL 'sum', in the pinned program and in every row, IS THE sha256 OF THE DUMP (.gsa) THAT YtifoecfajmnjjaaGreatProg.lean LOADS. Nothing in Lean hashes anything: it is a label: what it is worth is what the hold of that sum in a sandbox is worth. -/
noncomputable def Tryz.pinned : Pinned := { name := "ytifoecfajmnjjaagreat", sum := "dd1808b011ae760fc45079e8cf3f5501388d208842c65d4285e82dd0c0f41a69", checked := Tryz.checked }
namespace Rows
def none {H : Type} : Left H := { results := [], args := [] }

/-- 'wireloomlaw13.NetworkStates': WHATEVER THE INPUT: true; the input reads as it did. -/
def networkStatesSpec : ChangeSpec := { name := "networkStates", fn := fun _ => fun
  | [d1, d2] => { results := [.lit (.bool true)], args := [d1, d2] }
  | _ => none }
def networkStatesRow : OpenClaim := { program := "ytifoecfajmnjjaagreat", sum := "dd1808b011ae760fc45079e8cf3f5501388d208842c65d4285e82dd0c0f41a69", func := "wireloom/wireloomlaw13.NetworkStates", spec := "networkStates", unfollowed := true, recurses := true, apart := false }
def NetworkStatesSaid : Prop := networkStatesRow.holds Tryz.pinned (OpenSpec.ofChange networkStatesSpec)

/-- ITS FALSE NEIGHBOUR: 'it returns false'. Refute it at one input. -/
def networkStatesWrong : ChangeSpec := { name := "networkStates", fn := fun _ => fun
  | [d1, d2] => { results := [.lit (.bool false)], args := [d1, d2] }
  | _ => none }
def NetworkStatesWrongFalsely : Prop := networkStatesRow.holds Tryz.pinned (OpenSpec.ofChange networkStatesWrong)

/-- 'wireloomlaw13.NetworkPersistence': WHATEVER THE INPUT: true; the input reads as it did. -/
def networkPersistenceSpec : ChangeSpec := { name := "networkPersistence", fn := fun _ => fun
  | [d1, d2] => { results := [.lit (.bool true)], args := [d1, d2] }
  | _ => none }
def networkPersistenceRow : OpenClaim := { program := "ytifoecfajmnjjaagreat", sum := "dd1808b011ae760fc45079e8cf3f5501388d208842c65d4285e82dd0c0f41a69", func := "wireloom/wireloomlaw13.NetworkPersistence", spec := "networkPersistence", unfollowed := true, recurses := true, apart := false }
def NetworkPersistenceSaid : Prop := networkPersistenceRow.holds Tryz.pinned (OpenSpec.ofChange networkPersistenceSpec)

/-- ITS FALSE NEIGHBOUR: 'it returns false'. Refute it at one input. -/
def networkPersistenceWrong : ChangeSpec := { name := "networkPersistence", fn := fun _ => fun
  | [d1, d2] => { results := [.lit (.bool false)], args := [d1, d2] }
  | _ => none }
def NetworkPersistenceWrongFalsely : Prop := networkPersistenceRow.holds Tryz.pinned (OpenSpec.ofChange networkPersistenceWrong)

/-- 'wireloomlaw13.NetworkDiamond': WHATEVER THE INPUT: true; the input reads as it did. -/
def networkDiamondSpec : ChangeSpec := { name := "networkDiamond", fn := fun _ => fun
  | [d1, d2] => { results := [.lit (.bool true)], args := [d1, d2] }
  | _ => none }
def networkDiamondRow : OpenClaim := { program := "ytifoecfajmnjjaagreat", sum := "dd1808b011ae760fc45079e8cf3f5501388d208842c65d4285e82dd0c0f41a69", func := "wireloom/wireloomlaw13.NetworkDiamond", spec := "networkDiamond", unfollowed := true, recurses := true, apart := false }
def NetworkDiamondSaid : Prop := networkDiamondRow.holds Tryz.pinned (OpenSpec.ofChange networkDiamondSpec)

/-- ITS FALSE NEIGHBOUR: 'it returns false'. Refute it at one input. -/
def networkDiamondWrong : ChangeSpec := { name := "networkDiamond", fn := fun _ => fun
  | [d1, d2] => { results := [.lit (.bool false)], args := [d1, d2] }
  | _ => none }
def NetworkDiamondWrongFalsely : Prop := networkDiamondRow.holds Tryz.pinned (OpenSpec.ofChange networkDiamondWrong)

/-- 'wireloomlaw13.NetworkEnvironment': WHATEVER THE INPUT: true; the input reads as it did. -/
def networkEnvironmentSpec : ChangeSpec := { name := "networkEnvironment", fn := fun _ => fun
  | [d1, d2] => { results := [.lit (.bool true)], args := [d1, d2] }
  | _ => none }
def networkEnvironmentRow : OpenClaim := { program := "ytifoecfajmnjjaagreat", sum := "dd1808b011ae760fc45079e8cf3f5501388d208842c65d4285e82dd0c0f41a69", func := "wireloom/wireloomlaw13.NetworkEnvironment", spec := "networkEnvironment", unfollowed := true, recurses := true, apart := false }
def NetworkEnvironmentSaid : Prop := networkEnvironmentRow.holds Tryz.pinned (OpenSpec.ofChange networkEnvironmentSpec)

/-- ITS FALSE NEIGHBOUR: 'it returns false'. Refute it at one input. -/
def networkEnvironmentWrong : ChangeSpec := { name := "networkEnvironment", fn := fun _ => fun
  | [d1, d2] => { results := [.lit (.bool false)], args := [d1, d2] }
  | _ => none }
def NetworkEnvironmentWrongFalsely : Prop := networkEnvironmentRow.holds Tryz.pinned (OpenSpec.ofChange networkEnvironmentWrong)

/-- 'wireloomlaw13.NetworkMatchesReference': WHATEVER THE INPUT: true; the input reads as it did. -/
def networkMatchesReferenceSpec : ChangeSpec := { name := "networkMatchesReference", fn := fun _ => fun
  | [d1, d2] => { results := [.lit (.bool true)], args := [d1, d2] }
  | _ => none }
def networkMatchesReferenceRow : OpenClaim := { program := "ytifoecfajmnjjaagreat", sum := "dd1808b011ae760fc45079e8cf3f5501388d208842c65d4285e82dd0c0f41a69", func := "wireloom/wireloomlaw13.NetworkMatchesReference", spec := "networkMatchesReference", unfollowed := true, recurses := true, apart := false }
def NetworkMatchesReferenceSaid : Prop := networkMatchesReferenceRow.holds Tryz.pinned (OpenSpec.ofChange networkMatchesReferenceSpec)

/-- ITS FALSE NEIGHBOUR: 'it returns false'. Refute it at one input. -/
def networkMatchesReferenceWrong : ChangeSpec := { name := "networkMatchesReference", fn := fun _ => fun
  | [d1, d2] => { results := [.lit (.bool false)], args := [d1, d2] }
  | _ => none }
def NetworkMatchesReferenceWrongFalsely : Prop := networkMatchesReferenceRow.holds Tryz.pinned (OpenSpec.ofChange networkMatchesReferenceWrong)

/-- 'wireloomlaw13.NetworkTicks': WHATEVER THE INPUT: true; the input reads as it did. -/
def networkTicksSpec : ChangeSpec := { name := "networkTicks", fn := fun _ => fun
  | [d1, d2, d3] => { results := [.lit (.bool true)], args := [d1, d2, d3] }
  | _ => none }
def networkTicksRow : OpenClaim := { program := "ytifoecfajmnjjaagreat", sum := "dd1808b011ae760fc45079e8cf3f5501388d208842c65d4285e82dd0c0f41a69", func := "wireloom/wireloomlaw13.NetworkTicks", spec := "networkTicks", unfollowed := true, recurses := true, apart := false }
def NetworkTicksSaid : Prop := networkTicksRow.holds Tryz.pinned (OpenSpec.ofChange networkTicksSpec)

/-- ITS FALSE NEIGHBOUR: 'it returns false'. Refute it at one input. -/
def networkTicksWrong : ChangeSpec := { name := "networkTicks", fn := fun _ => fun
  | [d1, d2, d3] => { results := [.lit (.bool false)], args := [d1, d2, d3] }
  | _ => none }
def NetworkTicksWrongFalsely : Prop := networkTicksRow.holds Tryz.pinned (OpenSpec.ofChange networkTicksWrong)

/-- 'wireloomlaw13.NetworkConfluence': WHATEVER THE INPUT: true; the input reads as it did. -/
def networkConfluenceSpec : ChangeSpec := { name := "networkConfluence", fn := fun _ => fun
  | [d1, d2] => { results := [.lit (.bool true)], args := [d1, d2] }
  | _ => none }
def networkConfluenceRow : OpenClaim := { program := "ytifoecfajmnjjaagreat", sum := "dd1808b011ae760fc45079e8cf3f5501388d208842c65d4285e82dd0c0f41a69", func := "wireloom/wireloomlaw13.NetworkConfluence", spec := "networkConfluence", unfollowed := true, recurses := true, apart := false }
def NetworkConfluenceSaid : Prop := networkConfluenceRow.holds Tryz.pinned (OpenSpec.ofChange networkConfluenceSpec)

/-- ITS FALSE NEIGHBOUR: 'it returns false'. Refute it at one input. -/
def networkConfluenceWrong : ChangeSpec := { name := "networkConfluence", fn := fun _ => fun
  | [d1, d2] => { results := [.lit (.bool false)], args := [d1, d2] }
  | _ => none }
def NetworkConfluenceWrongFalsely : Prop := networkConfluenceRow.holds Tryz.pinned (OpenSpec.ofChange networkConfluenceWrong)

/- THE SECOND FORM. 'bulk': how many values and letters a reading holds, each counted each time it is reached (what is shared counts as often as it is met; a slice's spare places count too). A statement '..UptoSaid' is the law's where the arguments, and the package variables that the reading takes, are together of bulk at most 1048576: NARROWER than '..Said'. Prove '..Said' where nothing that the law and all that it calls make is longer than what came in: it says more and counts as full. Else prove '..UptoSaid'. A law counts once. -/
mutual
def uptoBulk {H : Type} : DataW H → Nat
  | .lit (.string bytes) => bytes.length + 1
  | .lit _ => 1
  | .nil => 1
  | .ptr d => uptoBulk d + 1
  | .slice elems spare => uptoBulkAll elems + uptoBulkAll spare + 1
  | .agg parts => uptoBulkAll parts + 1
  | .iface _ d => uptoBulk d + 1
  | .map entries => uptoBulkEntries entries + 1
  | .held _ => 1
def uptoBulkAll {H : Type} : List (DataW H) → Nat
  | [] => 0
  | d :: r => uptoBulk d + uptoBulkAll r
def uptoBulkEntries {H : Type} : List (Lit × DataW H) → Nat
  | [] => 0
  | x :: r => uptoBulkEntry x + uptoBulkEntries r
def uptoBulkEntry {H : Type} : Lit × DataW H → Nat
  | (.string bytes, d) => bytes.length + uptoBulk d + 1
  | (_, d) => uptoBulk d + 1
 end
def uptoSmall : (H : Type) → List (DataW H) → Bool := fun _ ds => decide (uptoBulkAll ds ≤ 1048576)
def OpenSpec.upto (s : _root_.Go.ChangeSpec) : _root_.Go.OpenSpec := { _root_.Go.OpenSpec.ofChange s with cond := some uptoSmall }

/-- 'wireloomlaw13.NetworkStates', WHERE WHAT IT READS IS OF BULK AT MOST 1048576: true; the input reads as it did. -/
def networkStatesUptoRow : OpenClaim := { program := "ytifoecfajmnjjaagreat", sum := "dd1808b011ae760fc45079e8cf3f5501388d208842c65d4285e82dd0c0f41a69", func := "wireloom/wireloomlaw13.NetworkStates", spec := "networkStates", unfollowed := true, recurses := true, apart := false, narrowed := true }
def NetworkStatesUptoSaid : Prop := networkStatesUptoRow.holds Tryz.pinned (OpenSpec.upto networkStatesSpec)

/-- 'wireloomlaw13.NetworkPersistence', WHERE WHAT IT READS IS OF BULK AT MOST 1048576: true; the input reads as it did. -/
def networkPersistenceUptoRow : OpenClaim := { program := "ytifoecfajmnjjaagreat", sum := "dd1808b011ae760fc45079e8cf3f5501388d208842c65d4285e82dd0c0f41a69", func := "wireloom/wireloomlaw13.NetworkPersistence", spec := "networkPersistence", unfollowed := true, recurses := true, apart := false, narrowed := true }
def NetworkPersistenceUptoSaid : Prop := networkPersistenceUptoRow.holds Tryz.pinned (OpenSpec.upto networkPersistenceSpec)

/-- 'wireloomlaw13.NetworkDiamond', WHERE WHAT IT READS IS OF BULK AT MOST 1048576: true; the input reads as it did. -/
def networkDiamondUptoRow : OpenClaim := { program := "ytifoecfajmnjjaagreat", sum := "dd1808b011ae760fc45079e8cf3f5501388d208842c65d4285e82dd0c0f41a69", func := "wireloom/wireloomlaw13.NetworkDiamond", spec := "networkDiamond", unfollowed := true, recurses := true, apart := false, narrowed := true }
def NetworkDiamondUptoSaid : Prop := networkDiamondUptoRow.holds Tryz.pinned (OpenSpec.upto networkDiamondSpec)

/-- 'wireloomlaw13.NetworkEnvironment', WHERE WHAT IT READS IS OF BULK AT MOST 1048576: true; the input reads as it did. -/
def networkEnvironmentUptoRow : OpenClaim := { program := "ytifoecfajmnjjaagreat", sum := "dd1808b011ae760fc45079e8cf3f5501388d208842c65d4285e82dd0c0f41a69", func := "wireloom/wireloomlaw13.NetworkEnvironment", spec := "networkEnvironment", unfollowed := true, recurses := true, apart := false, narrowed := true }
def NetworkEnvironmentUptoSaid : Prop := networkEnvironmentUptoRow.holds Tryz.pinned (OpenSpec.upto networkEnvironmentSpec)

/-- 'wireloomlaw13.NetworkMatchesReference', WHERE WHAT IT READS IS OF BULK AT MOST 1048576: true; the input reads as it did. -/
def networkMatchesReferenceUptoRow : OpenClaim := { program := "ytifoecfajmnjjaagreat", sum := "dd1808b011ae760fc45079e8cf3f5501388d208842c65d4285e82dd0c0f41a69", func := "wireloom/wireloomlaw13.NetworkMatchesReference", spec := "networkMatchesReference", unfollowed := true, recurses := true, apart := false, narrowed := true }
def NetworkMatchesReferenceUptoSaid : Prop := networkMatchesReferenceUptoRow.holds Tryz.pinned (OpenSpec.upto networkMatchesReferenceSpec)

/-- 'wireloomlaw13.NetworkTicks', WHERE WHAT IT READS IS OF BULK AT MOST 1048576: true; the input reads as it did. -/
def networkTicksUptoRow : OpenClaim := { program := "ytifoecfajmnjjaagreat", sum := "dd1808b011ae760fc45079e8cf3f5501388d208842c65d4285e82dd0c0f41a69", func := "wireloom/wireloomlaw13.NetworkTicks", spec := "networkTicks", unfollowed := true, recurses := true, apart := false, narrowed := true }
def NetworkTicksUptoSaid : Prop := networkTicksUptoRow.holds Tryz.pinned (OpenSpec.upto networkTicksSpec)

/-- 'wireloomlaw13.NetworkConfluence', WHERE WHAT IT READS IS OF BULK AT MOST 1048576: true; the input reads as it did. -/
def networkConfluenceUptoRow : OpenClaim := { program := "ytifoecfajmnjjaagreat", sum := "dd1808b011ae760fc45079e8cf3f5501388d208842c65d4285e82dd0c0f41a69", func := "wireloom/wireloomlaw13.NetworkConfluence", spec := "networkConfluence", unfollowed := true, recurses := true, apart := false, narrowed := true }
def NetworkConfluenceUptoSaid : Prop := networkConfluenceUptoRow.holds Tryz.pinned (OpenSpec.upto networkConfluenceSpec)

end Rows
end Go.Proofs.YtifoecfajmnjjaaGreat
