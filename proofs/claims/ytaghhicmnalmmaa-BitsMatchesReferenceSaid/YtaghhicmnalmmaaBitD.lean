/-
  Package bits: the tables of operators.
-/
import Derived.Test.YtaghhicmnalmmaaBitC
namespace Go.Proofs.Ytaghhicmnalmmaa
open Go.RowKit
set_option linter.unusedVariables false
set_option linter.unusedSimpArgs false

def simpleM : List (Int × Value) := [(2,.agg #[.int .i64 1,.func (.func 40) #[] #[],.func (.func 41) #[] #[]]),(3,.agg #[.int .i64 2,.func (.func 43) #[] #[],.func (.func 44) #[] #[]]),(4,.agg #[.int .i64 2,.func (.func 43) #[] #[],.func (.func 45) #[] #[]]),(5,.agg #[.int .i64 2,.func (.func 43) #[] #[],.func (.func 46) #[] #[]]),(6,.agg #[.int .i64 2,.func (.func 43) #[] #[],.func (.func 47) #[] #[]]),(7,.agg #[.int .i64 2,.func (.func 43) #[] #[],.func (.func 48) #[] #[]]),(8,.agg #[.int .i64 2,.func (.func 49) #[] #[],.func (.func 50) #[] #[]]),(9,.agg #[.int .i64 2,.func (.func 49) #[] #[],.func (.func 51) #[] #[]])]
set_option maxHeartbeats 800000 in
theorem simple_calls (w : World) : Calls Try.prog 33 #[] w (fun e w' => ∃ arr : Array MapEntry,e = .returned (.map (some w.heap.size))∧w' = w.alloc (.map arr 8)∧arr.toList.map (fun e => (e.key,e.val)) = simpleM.map (fun e => (Value.int .i64 e.1,e.2))) := by
  go_enter Try.func33,Try.ntmps33
  go_wp2_with (first | (rw [run_makeMap]) | (rw [run_insert Try.underlying70 Try.underlying3 (by rfl)]))
  go_ret
  exact ⟨_,rfl,rfl,rfl⟩
theorem simple_ok : CallOk Try.prog 33 [] [] false (.v (.mp simpleM)) [] := CallOk.of_map simple_calls

def othersM : List (Int × Value) := [(1,.agg #[.int .i64 0,.func (.func 52) #[] #[],.func (.func 53) #[] #[]]),(10,.agg #[.int .i64 3,.func (.func 54) #[] #[],.func (.func 55) #[] #[]]),(11,.agg #[.int .i64 2,.func (.func 56) #[] #[],.func (.func 57) #[] #[]]),(12,.agg #[.int .i64 1,.func (.func 58) #[] #[],.func (.func 59) #[] #[]]),(13,.agg #[.int .i64 1,.func (.func 60) #[] #[],.func (.func 61) #[] #[]])]
set_option maxHeartbeats 800000 in
theorem others_calls (w : World) : Calls Try.prog 34 #[] w (fun e w' => ∃ arr : Array MapEntry,e = .returned (.map (some w.heap.size))∧w' = w.alloc (.map arr 5)∧arr.toList.map (fun e => (e.key,e.val)) = othersM.map (fun e => (Value.int .i64 e.1,e.2))) := by
  go_enter Try.func34,Try.ntmps34
  go_wp2_with (first | (rw [run_makeMap]) | (rw [run_insert Try.underlying70 Try.underlying3 (by rfl)]))
  go_ret
  exact ⟨_,rfl,rfl,rfl⟩
theorem others_ok : CallOk Try.prog 34 [] [] false (.v (.mp othersM)) [] := CallOk.of_map others_calls

end Go.Proofs.Ytaghhicmnalmmaa
