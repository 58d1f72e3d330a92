/-
  Code in the frame of a round: a region that draws its order there. Generic: over any program.
-/
import Derived.Test.YtjmfaebimgnblaaReg
import Derived.OrdersIn
import Derived.TacticsIn
import Derived.RangeFuncRecord
import Derived.RangeFuncCalls
namespace Go.Proofs.Ytjmfaebimgnblaa
open Go.RowKit
set_option linter.unusedVariables false
set_option linter.unusedSimpArgs false

/-- The frame of a function, or of a round of loop l. -/
def fen : Option Nat → Fence
  | none => Fence.wide
  | some l => Fence.wide.inRound l

theorem fen_fn (rd : Option Nat) (f : FuncId) : (fen rd).fn f := by cases rd <;> trivial
theorem fen_round (rd : Option Nat) : (fen rd).round = rd := by cases rd <;> rfl
theorem fen_depth (rd : Option Nat) : (fen rd).depth = none := by cases rd <;> rfl
theorem fen_fenced (P : Program) (rd : Option Nat) : Machine.fenced P (fen rd) = Machine.fenced P Fence.wide := by cases rd <;> rfl

theorem callsIn_fen {rd : Option Nat} {n : Nat} {P : Program} {f : FuncId} {args : Array Value} {w : World} {R : Ending → World → Prop} (h : Calls P f args w R) : CallsIn (fen rd) n P f args w R := by
  have h' : CallsIn Fence.wide n P f args w R := callsIn_wide.2 h
  cases rd with
  | none => exact h'
  | some l => exact h'.inRound l
theorem calls_fen {rd : Option Nat} {n : Nat} {P : Program} {f : FuncId} {args : Array Value} {w : World} {R : Ending → World → Prop} (h : CallsIn (fen rd) n P f args w R) : Calls P f args w R := by
  cases rd with
  | none => exact callsIn_wide.1 h
  | some l => exact callsIn_wide.1 h.outOfRound
theorem rowsIn_fen {rd : Option Nat} {n : Nat} {P : Program} {row : String} {args : Array Value} {w : World} {R : Value → World → Prop} (h : Rows P row args w R) : RowsIn (fen rd) n P row args w R :=
  fun c cs _ => let ⟨v, w', r, s⟩ := h c cs; ⟨v, w', r, by rw [fen_fenced]; exact stepsIn_wide.2 s⟩

theorem upon_in {rd : Option Nat} {P : Program} {o : Oper} {a : Act} {K : Act → World → Prop} {Q : Exit → Act → World → Prop} {r : Result Next} (h : o.upon P a K Q r) : o.uponIn (fen rd) 0 P a K Q r := by
  have hd : (fen rd).depth.isSome = true → 1 ≤ 0 := fun h => by rw [fen_depth] at h; cases h
  cases r with
  | ok x w' =>
    cases x <;> simp only [Oper.upon] at h <;> simp only [Oper.uponIn] <;> first
      | exact h
      | exact ⟨hd, callsIn_fen h⟩
      | exact ⟨hd, rowsIn_fen h⟩
      | exact h.elim
  | halt x w' => cases x <;> simp only [Oper.upon] at h <;> simp only [Oper.uponIn] <;> exact h

def isDefer (o : Oper) : Bool :=
  match o.op with
  | .defer _ => true
  | _ => false
def NoDefer (ops : Array Oper) : Prop := ∀ (i : Nat) (o : Oper), ops[i]? = some o → isDefer o = false

theorem semAt_any {o : Oper} (h : isDefer o = false) (rd : Option Nat) (ρ : Operand → Value) : o.semAt rd ρ = execOp ρ o := by
  cases rd with
  | none => exact Oper.semAt_none ..
  | some l =>
    refine Oper.semAt_some l ρ o (fun c hc => ?_)
    unfold isDefer at h
    rw [hc] at h
    cases h

theorem wpIn_of {rd : Option Nat} {P : Program} {o : Oper} {a : Act} {w : World} {K : Act → World → Prop} {Q : Exit → Act → World → Prop} (hd : isDefer o = false) (h : o.uponIn (fen rd) 0 P a K Q ((execOp a.eval o).run P w)) : o.wpIn (fen rd) 0 P a w K Q :=
  ⟨fun f _ => fen_fn rd f, by rw [semAt_any hd]; exact h⟩

theorem inWp {rd : Option Nat} {P : Program} {ops : Array Oper} {i : Nat} {o : Oper} {a : Act} {w : World} {K : Act → World → Prop} {Q : Exit → Act → World → Prop} (hnd : NoDefer ops) (ho : ops[i]? = some o) (h : o.uponIn (fen rd) 0 P a K Q ((execOp a.eval o).run P w)) : o.wpIn (fen rd) 0 P a w K Q :=
  wpIn_of (hnd i o ho) h

theorem Upd.uponIn {rd : Option Nat} {P : Program} {R : Value → World → Prop} {o : Oper} {a : Act} {next : Act → World → Prop} {Q : Exit → Act → World → Prop} {r : Result Next}
    (h : Upd P R r) (hn : ∀ v w', R v w' → next (a.put o.dst v) w') : o.uponIn (fen rd) 0 P a next Q r := upon_in (h.upon hn)

/-- The variables that the first m operations have laid and that none of them has written. -/
structure RNew (sp : RSpec) (w0 : World) (m : Nat) (env : Nat → Value) (S : Nat → Prop) (w : World) : Prop where
  slt : ∀ b, S b → b < w.heap.size
  priv : ∀ j T z, j < m → sp.K j = .alloc T z → (∀ k, k < m → sp.K k ≠ .fill j) → ∃ b, env j = .pointer (some ⟨b, 0, none⟩) ∧ ¬ S b ∧ w.heap[b]? = some (.cells z T) ∧ w0.heap.size ≤ b
  apart : ∀ j j' T z T' z' b, j < m → j' < m → sp.K j = .alloc T z → sp.K j' = .alloc T' z' → env j = .pointer (some ⟨b, 0, none⟩) → env j' = .pointer (some ⟨b, 0, none⟩) → j = j'

section
variable {P : Program} {ops : Array Oper} {sp : RSpec} {base : Act} {w0 : World} {rd : Option Nat}

theorem wpAnyIn_tail {Q : Exit → Act → World → Prop} (hok : ROk ops sp base) {m0 : Nat} (htail : rTail ops m0 = true) : ∀ (fuel m : Nat) (listed : Array Bool) (a : Act) (w : World), m0 ≤ m → m + fuel = ops.size → listed.size = ops.size →
    (∀ i, i < m → listed.getD i false = true) → (∀ i, m ≤ i → listed.getD i false = false) →
    wpOpsIn (fen rd) 0 P ops Q (List.range' m fuel) a w → wpAnyIn (fen rd) 0 P .any ops Q fuel listed a w := by
  obtain ⟨_, ht⟩ := rTail_spec htail
  intro fuel
  induction fuel with
  | zero =>
    intro m listed a w hm hmn hs hall hno h
    refine ⟨List.eq_nil_iff_forall_not_mem.2 (fun i hi => ?_), by simpa [wpOpsIn] using h⟩
    obtain ⟨h1, o, ho, _⟩ := (ready_iff listed hs i).1 hi
    have := (Array.getElem?_eq_some_iff.1 ho).1
    rw [hall i (by omega)] at h1
    cases h1
  | succ fuel ih =>
    intro m listed a w hm hmn hs hall hno h
    have hmlt : m < ops.size := by omega
    have ho : ops[m]? = some ops[m] := Array.getElem?_eq_getElem hmlt
    have hrm : m ∈ Region.ready .any ops listed := (ready_iff listed hs m).2 ⟨hno m (Nat.le_refl _), _, ho, fun e he hb => hall _ (by have := hok.top m _ ho e he hb; omega)⟩
    refine ⟨fun hnil => (by rw [hnil] at hrm; cases hrm), fun i hi => ?_⟩
    obtain ⟨hnl, o, hio, hr⟩ := (ready_iff listed hs i).1 hi
    have him : i = m := by
      have hilt := (Array.getElem?_eq_some_iff.1 hio).1
      have h1 : m ≤ i := by
        refine Decidable.byContradiction fun hn => ?_
        rw [hall i (by omega)] at hnl
        cases hnl
      refine Decidable.byContradiction fun hn => ?_
      have hb := ht i (by omega) hilt m (by omega)
      have := rReach_listed (listed := listed) (fun k ok hk hok' e he hbe => by
        have hkm : k < m := by
          refine Decidable.byContradiction fun hn => ?_
          rw [hno k (by omega)] at hk
          cases hk
        have := hok.top k ok hok' e he hbe
        exact hall _ (by omega)) 5 i m (fun o' ho' => by rw [hio] at ho'; cases ho'; exact hr) hb
      rw [hno m (Nat.le_refl _)] at this
      cases this
    subst him
    rw [List.range'_succ, wpOpsIn_cons] at h
    refine wpOpIn_mono (fun a w h => ?_) h
    have hlt' : i < listed.size := by omega
    refine ih (i + 1) _ a w (by omega) (by omega) (by simpa using hs) (fun k hk => ?_) (fun k hk => ?_) h
    · rw [getD_set _ _ _ hlt']
      split
      · rfl
      · exact hall k (by omega)
    · rw [getD_set _ _ _ hlt', if_neg (by omega)]
      exact hno k (by omega)

theorem wpAnyIn_facts {Q : Exit → Act → World → Prop} (hnd : NoDefer ops) (hok : ROk ops sp base) {m : Nat} (htail : rTail ops m = true) (hst : ∀ j, Stable (sp.F j)) (hop : ∀ i o, i < m → ops[i]? = some o → OpOk P ops sp base w0 i o)
    (hfin : ∀ (env : Nat → Value) (S : Nat → Prop) (w : World), Below w0.heap.size w0 w → (∀ b, b < w0.heap.size → S b) → (∀ j, j < m → (sp.K j).isAlloc = false → sp.F j S (env ((sp.K j).who j)) w) → RNew sp w0 m env S w → wpOpsIn (fen rd) 0 P ops Q (List.range' m (ops.size - m)) (putAll (ops.toList.take m) 0 env base) w) :
    ∀ (fuel : Nat) (listed : Array Bool) (env : Nat → Value) (S : Nat → Prop) (a : Act) (w : World), RFrame ops base listed env a → RMem sp w0 listed env S w → unl listed m = fuel → (∀ i, m ≤ i → listed.getD i false = false) → wpAnyIn (fen rd) 0 P .any ops Q (fuel + (ops.size - m)) listed a w := by
  intro fuel
  obtain ⟨hmn, ht⟩ := rTail_spec htail
  have fin : ∀ (listed : Array Bool) (env : Nat → Value) (S : Nat → Prop) (a : Act) (w : World), RFrame ops base listed env a → RMem sp w0 listed env S w → (∀ i, i < m → listed.getD i false = true) → (∀ i, m ≤ i → listed.getD i false = false) → wpAnyIn (fen rd) 0 P .any ops Q (ops.size - m) listed a w := by
    intro listed env S a w hF hM hall hno
    refine wpAnyIn_tail hok htail (ops.size - m) m listed a w (Nat.le_refl _) (by omega) hF.lsize hall hno ?_
    rw [frame_end hok hF m hall hno]
    refine hfin env S w hM.below hM.sbase (fun j hj hal => hM.facts j (hall j hj) hal) ⟨hM.slt, fun j T z hj hk hnf => ?_, fun j j' T z T' z' b hj hj' hk hk' e e' => hM.apart j j' T z T' z' b (hall j hj) (hall j' hj') hk hk' e e'⟩
    obtain ⟨b, e1, e2, e3⟩ := hM.priv j T z (hall j hj) hk (fun k hk' => hnf k (by
      refine Decidable.byContradiction fun hn => ?_
      rw [hno k (by omega)] at hk'
      cases hk'))
    obtain ⟨b', f1, f2, _⟩ := hM.ptrs j T z (hall j hj) hk
    rw [e1] at f1
    simp only [Value.pointer.injEq, Option.some.injEq, Addr.mk.injEq, and_true] at f1
    exact ⟨b, e1, e2, e3, by rw [f1]; exact f2⟩
  induction fuel with
  | zero =>
    intro listed env S a w hF hM hu hno
    rw [Nat.zero_add]
    exact fin listed env S a w hF hM (unl_zero listed m hu) hno
  | succ fuel ih =>
    intro listed env S a w hF hM hu hno
    have hex : ∃ k, k < m ∧ listed.getD k false = false := by
      refine Decidable.byContradiction fun hn => ?_
      have : ∀ n, n ≤ m → unl listed n = 0 := by
        intro n
        induction n with
        | zero => intro _; rfl
        | succ n ihn =>
          intro hnm
          have h1 : listed.getD n false = true := by
            cases h : listed.getD n false
            · exact absurd ⟨n, by omega, h⟩ hn
            · rfl
          simp [unl, ihn (by omega), h1]
      have := this m (Nat.le_refl _)
      omega
    rw [show fuel + 1 + (ops.size - m) = (fuel + (ops.size - m)) + 1 from by omega]
    refine ⟨fun hnil => ?_, fun i hi => ?_⟩
    · obtain ⟨k, hk1, hk2⟩ := hex
      have := all_of_ready_nil hok listed hF.lsize hnil k (by omega)
      rw [hk2] at this
      cases this
    obtain ⟨hnl, o, ho, hr⟩ := (ready_iff listed hF.lsize i).1 hi
    have hlt : i < ops.size := (Array.getElem?_eq_some_iff.1 ho).1
    have hlt' : i < listed.size := by rw [hF.lsize]; exact hlt
    have him : i < m := by
      refine Decidable.byContradiction fun hn => ?_
      obtain ⟨k, hk1, hk2⟩ := hex
      have := rReach_listed hF.closed 5 i k (fun o' ho' => by rw [ho] at ho'; cases ho'; exact hr) (ht i (by omega) hlt k (by omega))
      rw [hk2] at this
      cases this
    have hu' : unl (listed.setIfInBounds i true) m = fuel := by
      have := unl_set listed i hlt' hnl m
      rw [if_pos him] at this
      omega
    have hno' : ∀ k, m ≤ k → (listed.setIfInBounds i true).getD k false = false := fun k hk => by
      rw [getD_set _ _ _ hlt', if_neg (by omega)]
      exact hno k hk
    have hins := insFacts_of hF hM ho hnl hr (sp.ins i) (hok.ins i hlt)
    have hcon : Consts a.eval := ⟨fun _ => rfl, fun _ => rfl, fun _ => rfl⟩
    have hguard : ∀ g want, o.guard = some (g, want) → ∃ t v, rDst ops g = some t ∧ a.tmps[t]? = some v ∧ sp.F g S v w := by
      intro g want hg
      obtain ⟨h1, h2, h3, t, h4, h5⟩ := hok.guard i o g want ho hg
      obtain ⟨hlg, hv⟩ := hF.look ho hnl hr h1 h4 h5
      refine ⟨t, env g, h4, hv, ?_⟩
      have := hM.facts g hlg h2
      rwa [h3] at this
    have hyes : GuardYes sp o → Region.wanted o (yielded ops a.tmps) = true := by
      intro hy
      refine wanted_of o _ (fun g want hg => ?_)
      obtain ⟨t, v, h1, h2, h3⟩ := hguard g want hg
      rw [yielded_of h1 h2, hy g want hg S v w h3]
      rfl
    have hO := hop i o him ho
    unfold wpOpIn
    simp only [ho]
    unfold OpOk at hO
    cases hK : sp.K i with
    | grow =>
      simp only [hK] at hO
      obtain ⟨hg, hrun⟩ := hO
      rw [if_pos (hyes hg)]
      refine inWp hnd ho (Upd.uponIn (hrun a.eval S w hcon hM.below hM.sbase hins) ?_)
      rintro v w' ⟨hb, hf⟩
      exact ih _ _ _ _ _ (hF.step hok ho hnl hr v) (hM.grow hok hst hF hlt' hnl (.inl hK) hb hf) hu' hno'
    | skip =>
      simp only [hK] at hO
      obtain ⟨⟨g, want, hg, hno⟩, hf⟩ := hO
      have hw : Region.wanted o (yielded ops a.tmps) = false := by
        obtain ⟨t, v, h1, h2, h3⟩ := hguard g want hg
        unfold Region.wanted
        rw [hg]
        simp only [yielded_of h1 h2]
        rcases hno S v w h3 with rfl | rfl
        · cases want <;> rfl
        · rfl
      rw [if_neg (by rw [hw]; simp)]
      refine ⟨fun f _ => fen_fn rd f, ?_⟩
      refine ih _ _ _ _ _ (hF.step hok ho hnl hr undef) (hM.grow (w' := w) hok hst hF hlt' hnl (.inr hK) (Below.refl _ _) ?_) hu' hno'
      exact hf _ _
    | alloc T z =>
      simp only [hK] at hO
      obtain ⟨hg, hrun⟩ := hO
      rw [if_pos (hyes hg)]
      refine inWp hnd ho ?_
      rw [hrun a.eval w]
      exact ih _ _ _ _ _ (hF.step hok ho hnl hr _) (hM.alloc hok hst hF hlt' hnl hK) hu' hno'
    | fill j0 =>
      simp only [hK] at hO
      obtain ⟨hg, hrun⟩ := hO
      rw [if_pos (hyes hg)]
      refine inWp hnd ho ?_
      obtain ⟨h1, ⟨t, ht, h2⟩, h3, h4, h5⟩ := hok.fill i j0 hlt hK
      obtain ⟨hlj, hv⟩ := hF.look ho hnl hr h1 ht h2
      have hkj : ∃ T z, sp.K j0 = .alloc T z := by
        cases hk : sp.K j0 <;> simp [hk, RKind.isAlloc] at h3
        exact ⟨_, _, rfl⟩
      obtain ⟨T, z, hkj⟩ := hkj
      obtain ⟨b, p1, p2, p3⟩ := hM.priv j0 T z hlj hkj (fun k hk hkk => by
        have hkl : k < ops.size := by
          rw [← hF.lsize]
          refine Decidable.byContradiction fun hn => ?_
          simp [Array.getD, hn] at hk
        have := h5 k hkl hkk
        subst this
        rw [hnl] at hk; cases hk)
      obtain ⟨w', q1, q2, q3⟩ := hrun T z t a.eval S w b hkj ht hcon hM.below hM.sbase hins (by simp [Act.eval, hv, p1]) p3 p2
      rw [q1]
      exact ih _ _ _ _ _ (hF.step hok ho hnl hr undef) (hM.fill hok hst hF hlt' hlt hnl hK hlj hkj p1 p2 q2 q3 undef) hu' hno'

/-- THE LAW: a region that draws its order, by a table of facts. -/
theorem wpIn_region_facts {id : Nat} {Q : Exit → Act → World → Prop} (sp : RSpec) (hnd : NoDefer ops) (hm : P.follows .mixedOrders = true) (hok : rOk ops sp base = true) (hst : ∀ j, Stable (sp.F j))
    {m : Nat} (htail : rTail ops m = true) (hop : ∀ i o, i < m → ops[i]? = some o → OpOk P ops sp base w0 i o)
    (hfin : ∀ (env : Nat → Value) (S : Nat → Prop) (w : World), Below w0.heap.size w0 w → (∀ b, b < w0.heap.size → S b) → (∀ j, j < m → (sp.K j).isAlloc = false → sp.F j S (env ((sp.K j).who j)) w) → RNew sp w0 m env S w → wpOpsIn (fen rd) 0 P ops Q (List.range' m (ops.size - m)) (putAll (ops.toList.take m) 0 env base) w) :
    (Code.region id ops true).wpIn (fen rd) 0 P Q base w0 := by
  obtain ⟨hmn, _⟩ := rTail_spec htail
  have key := wpAnyIn_facts (P := P) (rd := rd) hnd (Q := Q) (sp := sp) (w0 := w0) (rOk_spec hok) htail hst hop hfin m (Array.replicate ops.size false) (fun _ => undef) (fun b => b < w0.heap.size) base w0.drew ?_ ?_ (unl_replicate _ _ hmn) (fun i _ => by simp [Array.getD])
  · rw [show m + (ops.size - m) = ops.size from by omega] at key
    exact wpIn_region_any hm key
  · have hf : ∀ k, (Array.replicate ops.size false).getD k false = true → False := by
      intro k hk
      simp [Array.getD] at hk
    exact ⟨by simp, fun i o h => (hf i h).elim, rfl, rfl, fun _ _ => rfl, fun j t h => (hf j h).elim⟩
  · have hf : ∀ k, (Array.replicate ops.size false).getD k false = true → False := by
      intro k hk
      simp [Array.getD] at hk
    exact ⟨(Below.refl _ w0).drew, fun _ h => h, fun _ h => h, fun j h => (hf j h).elim, fun j _ _ h => (hf j h).elim, fun j _ _ h => (hf j h).elim, fun j _ _ _ _ _ _ h => (hf j h).elim⟩

end
end Go.Proofs.Ytjmfaebimgnblaa
