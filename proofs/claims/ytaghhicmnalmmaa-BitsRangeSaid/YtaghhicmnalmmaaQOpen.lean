/-
  What a row's reading of an argument says to the walks. Over any program.
-/
import Derived.Test.YtaghhicmnalmmaaQRep
import Derived.ProofKit
import Derived.OpenShut
import Derived.ShutString
import Derived.ChangeOld
namespace Go.Proofs.Ytaghhicmnalmmaa
open Go.ChangeShapes Go.WideShapes Go.ChangeAt Go.RowKit
section
variable {H : Type} {enc : TypeId × Value → H} {P : Program} {W : World} {r : Reach} {base : Nat}
theorem pH {k : IntKind} {x : Int} (h : qv k x) (hk : k.signed = false) : ∃ n : Nat, x = n ∧ (n : Int) ≤ k.max := by
 have h1 : k.min ≤ x ∧ x ≤ k.max := by simpa [qv, Lit.wf] using h
 have h0 : k.min = 0 := by unfold IntKind.min; rw [hk]; rfl
 obtain ⟨n, rfl⟩ := Int.eq_ofNat_of_zero_le (a := x) (by omega)
 exact ⟨n, rfl, h1.2⟩
end
end Go.Proofs.Ytaghhicmnalmmaa
