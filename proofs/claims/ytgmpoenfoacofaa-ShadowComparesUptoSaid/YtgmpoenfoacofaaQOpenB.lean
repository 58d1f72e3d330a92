/-
  What a row's reading of an argument says to the walks on pure data: slices of slices. Over any program.
-/
import Derived.Test.YtgmpoenfoacofaaQOpen
import Derived.Test.YtgmpoenfoacofaaQKb
namespace Go.Proofs.Ytgmpoenfoacofaa
open Go.ChangeShapes Go.WideShapes Go.ChangeAt Go.RowKit
set_option linter.unusedVariables false
set_option linter.unusedSimpArgs false
section
variable {H : Type} {enc : TypeId × Value → H} {P : Program} {W : World}
theorem qT {f : FuncId} {as : List D} {al b : Bool} (h : ai P f as [] al (dB b) []) (us : Array Value) (W : World) (hr : az (fun b => b < W.heap.size) (fun _ => undef) W as us) :
  Calls P f us W (fun e W' => e = .returned (.bool b) ∧ Below W.heap.size W W') := by
 refine (h (fun b => b < W.heap.size) (fun _ => undef) W us (fun _ h => h) ⟨fun id B hB => by simp at hB, fun i j A B b hA => by simp at hA, fun i A b hA => by simp at hA⟩ hr).mono ?_
 rintro e w' ⟨u, μ', S', rfl, h1, h2, h3, h4, h5, _, _, _, h9, _⟩
 refine ⟨?_, ⟨h1, h2, h3, h4, fun k hk => h5 k hk (fun i A hA => by simp at hA)⟩⟩
 rw [bQ h9]
def n9 (S : Nat → Prop) (μ : Nat → Value) (w : World) : List D → List Value → Prop
 | [], [] => True
 | d :: ds, u :: us => ac S μ w d u ∧ n9 S μ w ds us
 | _, _ => False
theorem n9.at {S : Nat → Prop} {μ : Nat → Value} {w : World} : ∀ {ds : List D} {us : List Value}, n9 S μ w ds us → us.length = ds.length ∧ ∀ (j : Nat) (y : D) (u : Value), ds[j]? = some y → us[j]? = some u → ac S μ w y u
 | [], [], _ => ⟨rfl, fun j y u hy => by simp at hy⟩
 | d :: ds, u :: us, h => by
  obtain ⟨h1, h2⟩ := h.2.at
  refine ⟨by simp [h1], fun j y z hy hz => ?_⟩
  match j with
  | 0 => simp at hy hz; subst hy hz; exact h.1
  | j + 1 => exact h2 j y z (by simpa using hy) (by simpa using hz)
 | [], _ :: _, h => h.elim
 | _ :: _, [], h => h.elim
theorem vX {S : Nat → Prop} {μ : Nat → Value} {w : World} {ds : List D} {us : List Value} (h : n9 S μ w ds us) : ac S μ w (.agg ds) (.agg us.toArray) :=
 .agg _ _ (by simpa using h.at.1) (fun j y u hy hu => h.at.2 j y u hy (by simpa using hu))
theorem xc {S : Nat → Prop} {μ : Nat → Value} {w : World} {x y q : D} {u v t : Value} (h : ac S μ w x u) (k : ac S μ w y v) (m : ac S μ w q t) : az S μ w [x, y, q] #[u, v, t] := ⟨rfl, fun j y z hy hz => by
 match j with
 | 0 => simp at hy hz; subst hy hz; exact h
 | 1 => simp at hy hz; subst hy hz; exact k
 | 2 => simp at hy hz; subst hy hz; exact m
 | j + 3 => simp at hy⟩
end
end Go.Proofs.Ytgmpoenfoacofaa
