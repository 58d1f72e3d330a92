/-
  No cell of these rows narrows 'for every input' (looked for: loops, veiled, ifaces, maps, wideKeys, modest, calm, conditions, laid).
  DERIVED. THE GIVEN ROWS OF THIS SEAT. 4 by the template 'for every input the law returns true; each argument reads behind the call as it read before'; 0 by the template 'total and deterministic' (their statements: YtckgpflobhpnpaaGreatTotals.lean).
  GIVEN WITH THE SEED: the statements are not yours to turn. If you find one false, say at which input.
  Laid BY PROGRAM, IN A SANDBOX (cutbox-rows.mjs): the forced cells as the released guide's own fill.sh prints them over the translation d6984d43866a47f8… (all of the seat's roots in one cut). By AI agents, Wed Nov 11 2026. No macro, syntax, notation, axiom, sorry.
-/
import Derived.Test.YtckgpflobhpnpaaGreatChecked
import GoSem.Claim
import GoSem.ClaimJoined
import GoSem.ClaimMapViews
import Derived.JoinedTies
import Derived.KernelRfl
namespace Go.Proofs.YtckgpflobhpnpaaGreat
/- THE CELL 'sum', in the pinned program and in every row, IS THE sha256 OF THE DUMP (.gsa) THAT YtckgpflobhpnpaaGreatProg.lean LOADS. Nothing in Lean hashes anything: it is a label: what it is worth is what the hold of that sum in a sandbox is worth. -/
noncomputable def Tryz.pinned : Pinned := { name := "ytckgpflobhpnpaagreat", sum := "d6984d43866a47f839b89c016a5040c7aa37fecd692309dfaf1caf8937926bd6", checked := Tryz.checked }
namespace Rows
def none {H : Type} : Left H := { results := [], args := [] }

/-- 'wireloomlaw14.StreamsMatchesReference': WHATEVER THE INPUT: true; the input reads as it did. -/
def streamsMatchesReferenceSpec : ChangeSpec := { name := "streamsMatchesReference", fn := fun _ => fun
  | [d1, d2, d3] => { results := [.lit (.bool true)], args := [d1, d2, d3] }
  | _ => none }
def streamsMatchesReferenceRow : OpenClaim := { program := "ytckgpflobhpnpaagreat", sum := "d6984d43866a47f839b89c016a5040c7aa37fecd692309dfaf1caf8937926bd6", func := "wireloom/wireloomlaw14.StreamsMatchesReference", spec := "streamsMatchesReference", unfollowed := true, recurses := true, apart := false }
def StreamsMatchesReferenceSaid : Prop := streamsMatchesReferenceRow.holds Tryz.pinned (OpenSpec.ofChange streamsMatchesReferenceSpec)

/-- ITS FALSE NEIGHBOUR: 'it returns false'. Refute it at one input. -/
def streamsMatchesReferenceWrong : ChangeSpec := { name := "streamsMatchesReference", fn := fun _ => fun
  | [d1, d2, d3] => { results := [.lit (.bool false)], args := [d1, d2, d3] }
  | _ => none }
def StreamsMatchesReferenceWrongFalsely : Prop := streamsMatchesReferenceRow.holds Tryz.pinned (OpenSpec.ofChange streamsMatchesReferenceWrong)

/-- 'wireloomlaw14.StreamsKahn': WHATEVER THE INPUT: true; the input reads as it did. -/
def streamsKahnSpec : ChangeSpec := { name := "streamsKahn", fn := fun _ => fun
  | [d1, d2, d3] => { results := [.lit (.bool true)], args := [d1, d2, d3] }
  | _ => none }
def streamsKahnRow : OpenClaim := { program := "ytckgpflobhpnpaagreat", sum := "d6984d43866a47f839b89c016a5040c7aa37fecd692309dfaf1caf8937926bd6", func := "wireloom/wireloomlaw14.StreamsKahn", spec := "streamsKahn", unfollowed := true, recurses := true, apart := false }
def StreamsKahnSaid : Prop := streamsKahnRow.holds Tryz.pinned (OpenSpec.ofChange streamsKahnSpec)

/-- ITS FALSE NEIGHBOUR: 'it returns false'. Refute it at one input. -/
def streamsKahnWrong : ChangeSpec := { name := "streamsKahn", fn := fun _ => fun
  | [d1, d2, d3] => { results := [.lit (.bool false)], args := [d1, d2, d3] }
  | _ => none }
def StreamsKahnWrongFalsely : Prop := streamsKahnRow.holds Tryz.pinned (OpenSpec.ofChange streamsKahnWrong)

/-- 'wireloomlaw14.StreamsCapacities': WHATEVER THE INPUT: true; the input reads as it did. -/
def streamsCapacitiesSpec : ChangeSpec := { name := "streamsCapacities", fn := fun _ => fun
  | [d1, d2, d3] => { results := [.lit (.bool true)], args := [d1, d2, d3] }
  | _ => none }
def streamsCapacitiesRow : OpenClaim := { program := "ytckgpflobhpnpaagreat", sum := "d6984d43866a47f839b89c016a5040c7aa37fecd692309dfaf1caf8937926bd6", func := "wireloom/wireloomlaw14.StreamsCapacities", spec := "streamsCapacities", unfollowed := true, recurses := true, apart := false }
def StreamsCapacitiesSaid : Prop := streamsCapacitiesRow.holds Tryz.pinned (OpenSpec.ofChange streamsCapacitiesSpec)

/-- ITS FALSE NEIGHBOUR: 'it returns false'. Refute it at one input. -/
def streamsCapacitiesWrong : ChangeSpec := { name := "streamsCapacities", fn := fun _ => fun
  | [d1, d2, d3] => { results := [.lit (.bool false)], args := [d1, d2, d3] }
  | _ => none }
def StreamsCapacitiesWrongFalsely : Prop := streamsCapacitiesRow.holds Tryz.pinned (OpenSpec.ofChange streamsCapacitiesWrong)

/-- 'wireloomlaw14.StreamsSettles': WHATEVER THE INPUT: true; the input reads as it did. -/
def streamsSettlesSpec : ChangeSpec := { name := "streamsSettles", fn := fun _ => fun
  | [d1, d2] => { results := [.lit (.bool true)], args := [d1, d2] }
  | _ => none }
def streamsSettlesRow : OpenClaim := { program := "ytckgpflobhpnpaagreat", sum := "d6984d43866a47f839b89c016a5040c7aa37fecd692309dfaf1caf8937926bd6", func := "wireloom/wireloomlaw14.StreamsSettles", spec := "streamsSettles", unfollowed := true, recurses := true, apart := false }
def StreamsSettlesSaid : Prop := streamsSettlesRow.holds Tryz.pinned (OpenSpec.ofChange streamsSettlesSpec)

/-- ITS FALSE NEIGHBOUR: 'it returns false'. Refute it at one input. -/
def streamsSettlesWrong : ChangeSpec := { name := "streamsSettles", fn := fun _ => fun
  | [d1, d2] => { results := [.lit (.bool false)], args := [d1, d2] }
  | _ => none }
def StreamsSettlesWrongFalsely : Prop := streamsSettlesRow.holds Tryz.pinned (OpenSpec.ofChange streamsSettlesWrong)

/- THE SECOND FORM. 'bulk': how many values and letters a reading holds, each counted each time it is reached (what is shared counts as often as it is met; a slice's spare places count too). A statement '..UptoSaid' is the law's where the arguments, and the package variables that the reading takes, are together of bulk at most 1048576: NARROWER than '..Said'. Prove '..Said' where nothing that the law and all that it calls make is longer than what came in: it says more and counts as full. Else prove '..UptoSaid'. A law counts once. -/
mutual
def uptoBulk {H : Type} : DataW H → Nat
  | .lit (.string bytes) => bytes.length + 1
  | .lit _ => 1
  | .nil => 1
  | .ptr d => uptoBulk d + 1
  | .slice elems spare => uptoBulkAll elems + uptoBulkAll spare + 1
  | .agg parts => uptoBulkAll parts + 1
  | .iface _ d => uptoBulk d + 1
  | .map entries => uptoBulkEntries entries + 1
  | .held _ => 1
def uptoBulkAll {H : Type} : List (DataW H) → Nat
  | [] => 0
  | d :: r => uptoBulk d + uptoBulkAll r
def uptoBulkEntries {H : Type} : List (Lit × DataW H) → Nat
  | [] => 0
  | x :: r => uptoBulkEntry x + uptoBulkEntries r
def uptoBulkEntry {H : Type} : Lit × DataW H → Nat
  | (.string bytes, d) => bytes.length + uptoBulk d + 1
  | (_, d) => uptoBulk d + 1
 end
def uptoSmall : (H : Type) → List (DataW H) → Bool := fun _ ds => decide (uptoBulkAll ds ≤ 1048576)
def OpenSpec.upto (s : _root_.Go.ChangeSpec) : _root_.Go.OpenSpec := { _root_.Go.OpenSpec.ofChange s with cond := some uptoSmall }

/-- 'wireloomlaw14.StreamsMatchesReference', WHERE WHAT IT READS IS OF BULK AT MOST 1048576: true; the input reads as it did. -/
def streamsMatchesReferenceUptoRow : OpenClaim := { program := "ytckgpflobhpnpaagreat", sum := "d6984d43866a47f839b89c016a5040c7aa37fecd692309dfaf1caf8937926bd6", func := "wireloom/wireloomlaw14.StreamsMatchesReference", spec := "streamsMatchesReference", unfollowed := true, recurses := true, apart := false, narrowed := true }
def StreamsMatchesReferenceUptoSaid : Prop := streamsMatchesReferenceUptoRow.holds Tryz.pinned (OpenSpec.upto streamsMatchesReferenceSpec)

/-- 'wireloomlaw14.StreamsKahn', WHERE WHAT IT READS IS OF BULK AT MOST 1048576: true; the input reads as it did. -/
def streamsKahnUptoRow : OpenClaim := { program := "ytckgpflobhpnpaagreat", sum := "d6984d43866a47f839b89c016a5040c7aa37fecd692309dfaf1caf8937926bd6", func := "wireloom/wireloomlaw14.StreamsKahn", spec := "streamsKahn", unfollowed := true, recurses := true, apart := false, narrowed := true }
def StreamsKahnUptoSaid : Prop := streamsKahnUptoRow.holds Tryz.pinned (OpenSpec.upto streamsKahnSpec)

/-- 'wireloomlaw14.StreamsCapacities', WHERE WHAT IT READS IS OF BULK AT MOST 1048576: true; the input reads as it did. -/
def streamsCapacitiesUptoRow : OpenClaim := { program := "ytckgpflobhpnpaagreat", sum := "d6984d43866a47f839b89c016a5040c7aa37fecd692309dfaf1caf8937926bd6", func := "wireloom/wireloomlaw14.StreamsCapacities", spec := "streamsCapacities", unfollowed := true, recurses := true, apart := false, narrowed := true }
def StreamsCapacitiesUptoSaid : Prop := streamsCapacitiesUptoRow.holds Tryz.pinned (OpenSpec.upto streamsCapacitiesSpec)

/-- 'wireloomlaw14.StreamsSettles', WHERE WHAT IT READS IS OF BULK AT MOST 1048576: true; the input reads as it did. -/
def streamsSettlesUptoRow : OpenClaim := { program := "ytckgpflobhpnpaagreat", sum := "d6984d43866a47f839b89c016a5040c7aa37fecd692309dfaf1caf8937926bd6", func := "wireloom/wireloomlaw14.StreamsSettles", spec := "streamsSettles", unfollowed := true, recurses := true, apart := false, narrowed := true }
def StreamsSettlesUptoSaid : Prop := streamsSettlesUptoRow.holds Tryz.pinned (OpenSpec.upto streamsSettlesSpec)

end Rows
end Go.Proofs.YtckgpflobhpnpaaGreat
