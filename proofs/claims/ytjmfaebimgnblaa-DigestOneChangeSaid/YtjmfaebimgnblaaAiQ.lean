/-
  Short words for data, and for what is owed of numbers. Generic: over any program.
-/
import Derived.Test.YtjmfaebimgnblaaAiU
import Derived.KernelRfl
import Derived.Laws.Bits64
import Derived.Laws.BitsAllLaws
namespace Go.Proofs.Ytjmfaebimgnblaa
open Go.RowKit
set_option linter.unusedVariables false
set_option linter.unusedSimpArgs false

abbrev dI (k : IntKind) (n : Int) : D := .v (.int k n)
abbrev dB (b : Bool) : D := .v (.bool b)
abbrev dS (s : ByteArray) : D := .v (.str s)
abbrev dL {α : Type} (sz : Nat) (enc : α → List V) (d : α) (l : List α) : D := .v (.sl sz enc d l)
def encI (k : IntKind) (n : Int) : List V := [.int k n]
def encB (b : Bool) : List V := [.bool b]
def encS (s : ByteArray) : List V := [.str s]

theorem w64 {x y : Int} (h : x = y) (h1 : -9223372036854775808 ≤ y) (h2 : y ≤ 9223372036854775807) : IntKind.i64.wrap x = y := by
  rw [h, IntKind.wrap_i64]; omega
theorem wu64 {x y : Int} (h : x = y) (h1 : 0 ≤ y) (h2 : y ≤ 18446744073709551615) : IntKind.u64.wrap x = y := by
  rw [h, IntKind.wrap_u64]; omega
theorem wu8 {x y : Int} (h : x = y) (h1 : 0 ≤ y) (h2 : y ≤ 255) : IntKind.u8.wrap x = y := by
  rw [h, IntKind.wrap_u8']; omega
theorem w64n {x : Int} {n : Nat} (h : x = (n : Int)) (h2 : n ≤ 9223372036854775807) : IntKind.i64.wrap x = (n : Int) := w64 h (by omega) (by omega)

end Go.Proofs.Ytjmfaebimgnblaa
