/-
  Runs of single operations, said of operands: over any program.
-/
import Derived.Test.YtjmfaebimgnblaaRep
namespace Go.Proofs.Ytjmfaebimgnblaa
open Go.RowKit

section
variable {P : Program} {ρ : Operand → Value} {w : World} {o : Oper} {R : Value → World → Prop}

theorem ex_move {x : Operand} (ho : o.op = .move x) : (execOp ρ o).run P w = .ok (.value (ρ x)) w := by
  simp [execOp, ho]
theorem ex_assign {x : Operand} (ho : o.op = .assign x) : (execOp ρ o).run P w = .ok (.value (ρ x)) w := by
  simp [execOp, ho]
theorem ex_pick {c a b : Operand} (ho : o.op = .pick c a b) {t : Bool} (hc : ρ c = .bool t) : (execOp ρ o).run P w = .ok (.value (if t then ρ a else ρ b)) w := by
  simp [execOp, ho, hc, asBool]

theorem run_sizeOf {e : TypeId} {sz : Nat} (hi : (P.info? e).map (·.size) = some sz) (w : World) : (sizeOf e).run P w = .ok sz w := by
  cases h : P.info? e with
  | none => rw [h] at hi; cases hi
  | some i =>
    rw [h] at hi
    simp only [Option.map_some, Option.some.injEq] at hi
    simp [sizeOf, typeInfo, h, hi]

theorem ex_slice_hi {t e : TypeId} {sz : Nat} {x h : Operand} {p : Option Addr} {n c m : Nat} {k : IntKind} (ho : o.op = .slice t x none (some h) none) (ht : P.underlying t = some (.slice e)) (hi : (P.info? e).map (·.size) = some sz)
    (hx : ρ x = .slice p n c) (hh : ρ h = .int k (m : Int)) (hm : m ≤ c) : (execOp ρ o).run P w = .ok (.value (.slice p m c)) w := by
  simp [execOp, ho, hx, hh, Instr.sliceAt, Instr.slice, run_underlying ht, Instr.sliceBounds, Instr.sliceBound, asIntOf, run_sizeOf hi, hm, Addr.add]

theorem ex_slice_lo {t e : TypeId} {sz : Nat} {x h : Operand} {p : Option Addr} {n c m : Nat} {k : IntKind} (ho : o.op = .slice t x (some h) none none) (ht : P.underlying t = some (.slice e)) (hi : (P.info? e).map (·.size) = some sz)
    (hx : ρ x = .slice p n c) (hh : ρ h = .int k (m : Int)) (hm : m ≤ n) : (execOp ρ o).run P w = .ok (.value (.slice (if c = m then p else p.map (·.add (m * sz))) (n - m) (c - m))) w := by
  simp [execOp, ho, hx, hh, Instr.sliceAt, Instr.slice, run_underlying ht, Instr.sliceBounds, Instr.sliceBound, asIntOf, run_sizeOf hi, hm]

/-- Function f has a body, and is none of the machine's own. -/
def isGo (P : Program) (f : FuncId) : Bool := match P.funcs[f]? with
  | some fn => !(fn.name == "runtime.NumGoroutine") && !fn.body.isNone
  | none => false

theorem run_callFunc {f : FuncId} (h : isGo P f = true) (args : Array Value) (w : World) : (callFunc f args).run P w = .ok (.enter f args) w := by
  unfold isGo at h
  cases hf : P.funcs[f]? with
  | none => rw [hf] at h; cases h
  | some fn =>
    rw [hf] at h
    simp only [Bool.and_eq_true, Bool.not_eq_true'] at h
    have n1 : fn.name ≠ "runtime.NumGoroutine" := by simpa using h.1
    have n2 : fn.body ≠ none := fun e => by rw [e] at h; simp at h
    simp [callFunc, program, Sem.run, hf, n1, n2]

theorem ex_call {f : FuncId} {args : Array Operand} {ts : Array TypeId} (ho : o.op = .call { callee := .value (.func f), args := args, argTypes := ts }) (hc : Consts ρ) (hf : isGo P f = true) :
    (execOp ρ o).run P w = .ok (.enter f (args.map ρ)) w := by
  simp [execOp, ho, resolve, hc.func, Deferred.ofValue, invoke, run_callFunc hf]

/-- A call of a Go function, met by a contract. -/
theorem Upd.call {f : FuncId} {args : Array Operand} {ts : Array TypeId} {vs : Array Value} (ho : o.op = .call { callee := .value (.func f), args := args, argTypes := ts }) (hc : Consts ρ) (hf : isGo P f = true) (hv : args.map ρ = vs)
    (h : Calls P f vs w (fun e w'' => ∃ v, e = .returned v ∧ R v w'')) : Upd P R ((execOp ρ o).run P w) := by
  rw [ex_call ho hc hf, hv]
  exact Upd.enter h

theorem ex_len_slice {x : Operand} {t : TypeId} {p : Option Addr} {n c : Nat} (ho : o.op = .call { callee := .builtin .len, args := #[x], argTypes := #[t] }) (ht : P.underlying t = some (.slice (P.elem t))) (hx : ρ x = .slice p n c) :
    (execOp ρ o).run P w = .ok (.value (.int .i64 n)) w := by
  have e : ((Builtin.len_ #[t] o.type #[.slice p n c]).run P w) = .ok (.int .i64 n) w := run_len_slice (P := P) w t o.type p n c ht
  simp only [execOp, ho, resolve, invoke, hx, List.map_toArray, List.map_cons, List.map_nil, Sem.run_bind, Sem.run_pure, Result.andThen_ok]
  simp only [builtin, Sem.run_bind, e, Result.andThen_ok, Sem.run_pure]

theorem ex_extract {x : Operand} {i : Nat} {vs : Array Value} (ho : o.op = .extract x i) (hx : ρ x = .tuple vs) {v : Value} (hv : vs[i]? = some v) : (execOp ρ o).run P w = .ok (.value v) w := by
  simp [execOp, ho, hx, Instr.extract, hv]

end
end Go.Proofs.Ytjmfaebimgnblaa
