/-
  What a row's reading of an argument says to the walks on pure data: slices of slices. Over any program.
-/
import Derived.Test.YtaghhicmnalmmaaQOpen
import Derived.Test.YtaghhicmnalmmaaQKb
namespace Go.Proofs.Ytaghhicmnalmmaa
open Go.ChangeShapes Go.WideShapes Go.ChangeAt Go.RowKit
set_option linter.unusedVariables false
set_option linter.unusedSimpArgs false
section
variable {H : Type} {enc : TypeId × Value → H} {P : Program} {W : World}
theorem mY {f : FuncId} {ys : List D} {al b : Bool} (h : ai P f ys [] al (dB b) []) (us : Array Value) (W : World) (hr : aq (fun b => b < W.heap.size) (fun _ => undef) W ys us) :
  Calls P f us W (fun e W' => e = .returned (.bool b) ∧ Below W.heap.size W W') := by
 refine (h (fun b => b < W.heap.size) (fun _ => undef) W us (fun _ h => h) ⟨fun id B hB => by simp at hB, fun i j A B b hA => by simp at hA, fun i A b hA => by simp at hA⟩ hr).mono ?_
 rintro e w' ⟨u, μ', S', rfl, h1, h2, h3, h4, h5, _, _, _, h9, _⟩
 refine ⟨?_, ⟨h1, h2, h3, h4, fun k hk => h5 k hk (fun i A hA => by simp at hA)⟩⟩
 rw [bQ h9]
theorem qw {r : Reach} {base : Nat} {t : TypeId} {v : Value} {d : DataW H} {p : List MemPlace} (ht : P.underlying t = some (.int .u8)) (hv : Value.okWide P W r base t v) (h : DataW.Trod enc P W 0 (fun _ => true) true t v d p) : ∃ n : Nat, v = .int .u8 (n : Int) ∧ n ≤ 255 := by
 obtain ⟨n, rfl, -, -, fn⟩ := open_int ht hv h
 obtain ⟨n, rfl, bn⟩ := pH fn rfl
 have : IntKind.u8.max = 255 := rfl
 exact ⟨n, rfl, by omega⟩
def lk (S : Nat → Prop) (μ : Nat → Value) (w : World) : List D → List Value → Prop
 | [], [] => True
 | d :: ds, u :: us => ab S μ w d u ∧ lk S μ w ds us
 | _, _ => False
theorem lk.at {S : Nat → Prop} {μ : Nat → Value} {w : World} : ∀ {ds : List D} {us : List Value}, lk S μ w ds us → us.length = ds.length ∧ ∀ (j : Nat) (y : D) (u : Value), ds[j]? = some y → us[j]? = some u → ab S μ w y u
 | [], [], _ => ⟨rfl, fun j y u hy => by simp at hy⟩
 | d :: ds, u :: us, h => by
  obtain ⟨h1, h2⟩ := h.2.at
  refine ⟨by simp [h1], fun j y z hy hz => ?_⟩
  match j with
  | 0 => simp at hy hz; subst hy hz; exact h.1
  | j + 1 => exact h2 j y z (by simpa using hy) (by simpa using hz)
 | [], _ :: _, h => h.elim
 | _ :: _, [], h => h.elim
theorem nJ {S : Nat → Prop} {μ : Nat → Value} {w : World} {ds : List D} {us : List Value} (h : lk S μ w ds us) : ab S μ w (.agg ds) (.agg us.toArray) :=
 .agg _ _ (by simpa using h.at.1) (fun j y u hy hu => h.at.2 j y u hy (by simpa using hu))
theorem rt {S : Nat → Prop} {μ : Nat → Value} {w : World} {x y q : D} {u v t : Value} (h : ab S μ w x u) (k : ab S μ w y v) (m : ab S μ w q t) : aq S μ w [x, y, q] #[u, v, t] := ⟨rfl, fun j y z hy hz => by
 match j with
 | 0 => simp at hy hz; subst hy hz; exact h
 | 1 => simp at hy hz; subst hy hz; exact k
 | 2 => simp at hy hz; subst hy hz; exact m
 | j + 3 => simp at hy⟩
end
end Go.Proofs.Ytaghhicmnalmmaa
