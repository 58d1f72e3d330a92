/-
  Calls, and every operation in one word; lists of operations. Generic: over any program.
-/
import Derived.Test.YtjmfaebimgnblaaAiT
namespace Go.Proofs.Ytjmfaebimgnblaa
open Go.RowKit
set_option linter.unusedVariables false
set_option linter.unusedSimpArgs false

def ovAt : List (Nat × Ov) → Nat → Ov
  | [], _ => .none
  | (j, o) :: r, i => if Nat.beq j i then o else ovAt r i

/-- Does the operation's guard say yes? -/
def guardD (ops : List Oper) (st : St) (o : Oper) : Option Bool :=
  match o.guard with
  | none => some true
  | some (g, want) => match (ops[g]?).bind (·.dst) with
    | some t => match lookE st.env t with
      | .v (.bool b) => some (b == want)
      | .tup [] => some false
      | _ => none
    | none => none

def skipOp (nt : Nat) (st : St) (dst : Option Nat) : R2 := ePut nt st dst (.tup []) True

def seqOps (P : Program) (nt : Nat) (ops : List Oper) (ovs : List (Nat × Ov)) : Nat → List Oper → St → R2
  | _, [], st => (st, True)
  | i, o :: r, st => match guardD ops st o with
    | some true => match seqOp P nt (ovAt ovs i) o st with
      | (st1, p1) => match seqOps P nt ops ovs (i + 1) r st1 with
        | (st2, p2) => (st2, p1 ∧ p2)
    | some false => match skipOp nt st o.dst with
      | (st1, p1) => match seqOps P nt ops ovs (i + 1) r st1 with
        | (st2, p2) => (st2, p1 ∧ p2)
    | none => fail2 st

def hasE : List (Nat × D) → Nat → Bool
  | [], _ => false
  | (s, _) :: r, t => Nat.beq s t || hasE r t
/-- The slots 'keep' alone, in that order. -/
def keepE (keep : List Nat) (env : List (Nat × D)) : List (Nat × D) :=
  match keep with
  | [] => []
  | t :: r => if hasE env t then (t, lookE env t) :: keepE r env else keepE r env
theorem hasE_mem : ∀ {env : List (Nat × D)} {t : Nat}, hasE env t = true → ∃ e, (t, e) ∈ env
  | (s, e) :: r, t, h => by
    unfold hasE at h
    cases hs : Nat.beq s t
    · rw [hs, Bool.false_or] at h
      obtain ⟨e', h'⟩ := hasE_mem h
      exact ⟨e', List.mem_cons_of_mem _ h'⟩
    · rw [Nat.beq_eq] at hs
      subst hs
      exact ⟨e, List.mem_cons_self ..⟩
theorem keepE_mem {env : List (Nat × D)} : ∀ {keep : List Nat} {t : Nat} {d : D}, (t, d) ∈ keepE keep env → d = .junk ∧ (∃ e, (t, e) ∈ env) ∨ (t, d) ∈ env
  | [], t, d, h => by cases h
  | s :: r, t, d, h => by
    unfold keepE at h
    split at h
    · rename_i hh
      rcases List.mem_cons.1 h with h | h
      · cases h
        rcases lookE_mem (env := env) (t := s) with h1 | h1
        · exact .inl ⟨h1, hasE_mem hh⟩
        · exact .inr h1
      · exact keepE_mem h
    · exact keepE_mem h

section
variable {C : Ctx} {S : Nat → Prop} {μ : Nat → Value} {st st' : St} {a : Act} {w w' : World} {p : Prop}

theorem RepsA.evals' {S : Nat → Prop} {μ : Nat → Value} {a : Act} {w : World} {st : St} (h : Rel C S μ st a w) (args : Array Operand) : RepsA S μ w (args.toList.map (evD st.env)) (args.map a.eval) := RepsA.evals h args

theorem eCall_sound (h : Rel C S μ st a w) {ov : Ov} {o : Oper} {f : Operand} {args : Array Operand} {ats : Array TypeId} (ho : o.op = .call ⟨.value f, args, ats⟩)
    (hp : eCall C.P C.nt st ov o.dst (evD st.env f) (args.toList.map (evD st.env)) = (st', p)) (hob : p) {K : Act → World → Prop} {Q : Exit → Act → World → Prop} (hK : ∀ S' μ' a' w', Rel C S' μ' st' a' w' → K a' w') :
    o.uponIn (fen C.rd) 0 C.P a K Q ((execOp a.eval o).run C.P w) := by
  unfold eCall at hp
  split at hp
  · rename_i g first cap hf
    have hfv := hf ▸ h.eval f
    split at hp
    · rename_i as al r
      split at hp
      · rename_i hc
        simp only [Bool.and_eq_true, Bool.or_eq_true, Bool.not_eq_true'] at hc
        obtain ⟨⟨hgo, hr⟩, hal⟩ := hc
        have harg := RepsA.evals h args
        refine upon_in ?_
        generalize hfe : a.eval f = uf at hfv
        cases hfv with
        | fn _ _ _ us vs h1 h2 h3 h4 =>
          have hrun : (execOp a.eval o).run C.P w = .ok (.enter g (us ++ args.map a.eval ++ vs)) w := by
            simp [execOp, ho, resolve, hfe, Deferred.ofValue, invoke, run_callFunc' hgo]
          rw [hrun, Oper.upon_enter]
          have hall : RepsA S μ w (first ++ args.toList.map (evD st.env) ++ cap) (us ++ args.map a.eval ++ vs) := (RepsA.app (RepsA.app ⟨h1, h2⟩ harg) ⟨h3, h4⟩)
          have hq : callOb C.P g st.heap (first ++ args.toList.map (evD st.env) ++ cap) as al r := ePut_ob hp hob
          refine (h.callPure hq hall hal hr (K := fun u w' => K (a.put o.dst u) w') ?_).mono ?_
          · intro S' u w' hR hd
            exact hK _ _ _ _ (hR.ePut hp hob hd).2
          · rintro e w' ⟨u, rfl, hu⟩
            exact hu
      · exact fail_elim hp hob
    · rename_i r env H
      generalize hfe : a.eval f = uf at hfv
      cases hfv with
      | fn _ _ _ us vs h1 h2 h3 h4 =>
        have hs := eInl_sound (us := us ++ args.map a.eval ++ vs) h (fun μ1 H1 h' => by
          have hfv' : DRep S μ1 w (.fn (.func g) first cap) (a.eval f) := hf ▸ h'.eval f
          rw [hfe] at hfv'
          cases hfv' with
          | fn _ _ _ _ _ q1 q2 q3 q4 => exact RepsA.app (RepsA.app ⟨q1, q2⟩ (RepsA.evals h' args)) ⟨q3, q4⟩) hp hob (K := K) hK
        have hrun : (execOp a.eval o).run C.P w = .ok (.enter g (us ++ args.map a.eval ++ vs)) w := by
          simp [execOp, ho, resolve, hfe, Deferred.ofValue, invoke, run_callFunc' hs.1]
        refine upon_in ?_
        rw [hrun, Oper.upon_enter]
        refine hs.2.mono ?_
        rintro e w' ⟨u, rfl, hu⟩
        exact hu
    · exact fail_elim hp hob
  · rename_i id hf
    split at hp
    · exact eYield_sound h ho hf hp hob hK
    · exact fail_elim hp hob
  · exact fail_elim hp hob

theorem seqOp_sound (h : Rel C S μ st a w) {ov : Ov} {o : Oper} (hp : seqOp C.P C.nt ov o st = (st', p)) (hob : p) {K : Act → World → Prop} {Q : Exit → Act → World → Prop}
    (hK : ∀ S' μ' a' w', Rel C S' μ' st' a' w' → K a' w') : o.uponIn (fen C.rd) 0 C.P a K Q ((execOp a.eval o).run C.P w) := by
  have hv : ∀ (s : Sem Value) (u : Value) (w' : World), s.run C.P w = .ok u w' → (do pure (.value (← s)) : Sem Next).run C.P w = .ok (.value u) w' := by
    intro s u w' h
    simp only [Sem.run_bind, h, Result.andThen_ok, Sem.run_pure]
  have val : ∀ (u : Value) (w' : World) (μ' : Nat → Value), (execOp a.eval o).run C.P w = .ok (.value u) w' → Rel C S μ' st' (a.put o.dst u) w' → o.uponIn (fen C.rd) 0 C.P a K Q ((execOp a.eval o).run C.P w) := by
    intro u w' μ' hr hR
    rw [hr, Oper.uponIn_value]
    exact hK _ _ _ _ hR
  have hpure : pureOp C.nt st ov o.dst (opPure C.P st.heap (evD st.env) o.op) = (st', p) → o.uponIn (fen C.rd) 0 C.P a K Q ((execOp a.eval o).run C.P w) := by
    intro hp
    generalize hq : opPure C.P st.heap (evD st.env) o.op = q at hp
    obtain ⟨d, q⟩ := q
    unfold pureOp at hp
    split at hp
    · rename_i d' _
      have hqq : q ∧ eqD d d' := by
        unfold ePut at hp
        split at hp
        · split at hp
          · simp only [Prod.mk.injEq] at hp; rw [← hp.2] at hob; exact hob
          · exact fail_elim hp hob
        · simp only [Prod.mk.injEq] at hp; rw [← hp.2] at hob; exact hob
      obtain ⟨u, h1, h2⟩ := opPure_sound h.heap h.eval hq hqq.1
      exact val u w μ h1 (h.ePut hp hob (eqD_rep hqq.2 h2)).2
    · have hqq : q := by
        unfold ePut at hp
        split at hp
        · split at hp
          · simp only [Prod.mk.injEq] at hp; rw [← hp.2] at hob; exact hob
          · exact fail_elim hp hob
        · simp only [Prod.mk.injEq] at hp; rw [← hp.2] at hob; exact hob
      obtain ⟨u, h1, h2⟩ := opPure_sound h.heap h.eval hq hqq
      exact val u w μ h1 (h.ePut hp hob h2).2
  unfold seqOp at hp
  split at hp
  · rename_i T ho
    split at hp
    · rename_i z hz
      obtain ⟨v, hv1, hv2⟩ := zeroD_sound (P := C.P) (S := S) (μ := μ) (w := w) hz
      refine val _ _ _ ?_ (h.eVar hp hob hv2)
      simp [execOp, ho, Instr.alloc, Sem.run_bind, hv1, newVar, newRow, newObj, Sem.run]
    · exact fail_elim hp hob
  · rename_i T x ho
    split at hp
    · rename_i cs hcs
      refine val _ _ _ ?_ (h.eVar hp hob (cellsD_sound h.heap (h.eval x) hcs))
      simp [execOp, ho, Instr.box, newVar, newRow, newObj, Sem.run]
    · exact fail_elim hp hob
  · rename_i t ad x ho
    split at hp
    · rename_i hd
      obtain ⟨w', h1, h2⟩ := eStore_sound h (h.eval ad) (h.eval x) hp hob
      have hr : (execOp a.eval o).run C.P w = .ok .skip w' := by
        simp only [execOp, ho, Sem.run_bind, h1, Result.andThen_ok, Sem.run_pure]
      rw [hr, Oper.uponIn_skip, hd]
      exact hK _ _ _ _ h2
    · exact fail_elim hp hob
  · rename_i t len parts ho
    have core : ∀ (ov : Ov) (st1 : St) (p1 : Prop), eSlice C.P C.nt st ov o.dst t len (parts.toList.map fun p => (p.1, evD st.env p.2)) = (st1, p1) → p1 → ∃ u w' μ', (execOp a.eval o).run C.P w = .ok (.value u) w' ∧ Rel C S μ' st1 (a.put o.dst u) w' := by
      intro ov st1 p1 hp hob
      obtain ⟨u, w', μ', h1, h2⟩ := eSlice_sound h (uparts := parts.toList.map fun p => (p.1, a.eval p.2)) (by simp) (fun j x u hx hu => by
        simp only [List.getElem?_map, Array.getElem?_toList] at hx hu
        cases hj : parts[j]? with
        | none => rw [hj] at hx; cases hx
        | some q => rw [hj] at hx hu; simp at hx hu; subst hx hu; exact h.eval q.2) hp hob
      refine ⟨u, w', μ', ?_, h2⟩
      have he : parts.map (fun (i, x) => (i, a.eval x)) = (parts.toList.map fun p => (p.1, a.eval p.2)).toArray := Array.ext' (by simp)
      rw [← he] at h1
      simp only [execOp, ho, Sem.run_bind, h1, Result.andThen_ok, Sem.run_pure]
    split at hp
    · generalize hq : eSlice C.P C.nt st _ o.dst t len _ = q at hp
      obtain ⟨st1, p1⟩ := q
      simp only at hp
      split at hp
      · rename_i st2 hfz
        simp only [Prod.mk.injEq] at hp
        obtain ⟨rfl, rfl⟩ := hp
        obtain ⟨u, w', μ', e1, e2⟩ := core _ _ _ hq hob
        obtain ⟨S2, e3⟩ := e2.freeze hfz
        rw [e1, Oper.uponIn_value]
        exact hK _ _ _ _ e3
      · exact fail_elim hp hob
    · obtain ⟨u, w', μ', e1, e2⟩ := core _ _ _ hp hob
      exact val u w' μ' e1 e2
  · rename_i t l c ho
    have core : ∀ (ov : Ov) (st1 : St) (p1 : Prop), eMake C.P C.nt st ov o.dst t (evD st.env l) (evD st.env c) = (st1, p1) → p1 → ∃ u w' μ', (execOp a.eval o).run C.P w = .ok (.value u) w' ∧ Rel C S μ' st1 (a.put o.dst u) w' := by
      intro ov st1 p1 hp hob
      obtain ⟨u, w', μ', h1, h2⟩ := eMake_sound h (h.eval l) (h.eval c) hp hob
      refine ⟨u, w', μ', ?_, h2⟩
      simp only [execOp, ho, Sem.run_bind, h1, Result.andThen_ok, Sem.run_pure]
    split at hp
    · generalize hq : eMake C.P C.nt st _ o.dst t _ _ = q at hp
      obtain ⟨st1, p1⟩ := q
      simp only at hp
      split at hp
      · rename_i st2 hfz
        simp only [Prod.mk.injEq] at hp
        obtain ⟨rfl, rfl⟩ := hp
        obtain ⟨u, w', μ', e1, e2⟩ := core _ _ _ hq hob
        obtain ⟨S2, e3⟩ := e2.freeze hfz
        rw [e1, Oper.uponIn_value]
        exact hK _ _ _ _ e3
      · exact fail_elim hp hob
    · obtain ⟨u, w', μ', e1, e2⟩ := core _ _ _ hp hob
      exact val u w' μ' e1 e2
  · rename_i args ats ho
    split at hp
    · rename_i s x t t' ha ht
      split at hp
      · rename_i hc
        rw [Nat.beq_eq] at hc
        subst hc
        have ea : args = #[s, x] := Array.ext' (by simpa using ha)
        have et : ats = #[t, t] := Array.ext' (by simpa using ht)
        subst ea et
        obtain ⟨u, w', μ', h1, h2⟩ := eAppend_sound h (ty := o.type) (h.eval s) (h.eval x) hp hob
        refine val u w' μ' ?_ h2
        simp only [execOp, ho, resolve, invoke, builtin, List.map_toArray, List.map_cons, List.map_nil, Sem.run_bind, Sem.run_pure, Result.andThen_ok, h1]
      · exact fail_elim hp hob
    · exact fail_elim hp hob
  · rename_i f args ats ho
    exact eCall_sound h ho hp hob hK
  · exact hpure hp

theorem guardD_sound (h : Rel C S μ st a w) {ops : List Oper} {o : Oper} {b : Bool} (hg : guardD ops st o = some b) : Region.wanted o (yielded ops.toArray a.tmps) = b := by
  unfold guardD at hg
  unfold Region.wanted
  cases hgd : o.guard with
  | none => rw [hgd] at hg; cases hg; rfl
  | some q =>
    obtain ⟨g, want⟩ := q
    rw [hgd] at hg
    simp only at hg ⊢
    split at hg
    · rename_i t ht
      have hv := h.eval (.tmp t)
      have hy : yielded ops.toArray a.tmps g = match a.tmps[t]? with | some (.bool b) => some b | _ => none := by
        unfold yielded
        simp only [List.getElem?_toArray, ht, Option.bind_some]
        rfl
      rw [hy]
      simp only [evD] at hv
      split at hg
      · rename_i c hl
        rw [hl] at hv
        have := bool_inv hv
        simp only [Act.eval, Array.getD_eq_getD_getElem?] at this
        cases hq : a.tmps[t]? with
        | none => rw [hq] at this; simp [undef] at this
        | some u =>
          rw [hq] at this
          simp at this
          subst this
          cases hg
          cases c <;> cases want <;> rfl
      · rename_i hl
        rw [hl] at hv
        obtain ⟨us, hu, h1, _⟩ := tup_inv hv
        simp only [Act.eval, Array.getD_eq_getD_getElem?] at hu
        cases hg
        cases hq : a.tmps[t]? with
        | none => cases want <;> rfl
        | some u =>
          rw [hq] at hu
          simp at hu
          subst hu
          cases want <;> rfl
      · cases hg
    · cases hg

theorem seqOp_defer {P : Program} {nt : Nat} {ov : Ov} {o : Oper} (hd : isDefer o = true) (hp : seqOp P nt ov o st = (st', p)) (hob : p) : False := by
  unfold isDefer at hd
  split at hd
  · rename_i c ho
    unfold seqOp at hp
    rw [ho] at hp
    simp only [opPure] at hp
    unfold pureOp at hp
    split at hp
    · exact (ePut_ob hp hob).1
    · exact ePut_ob hp hob
  · cases hd

theorem seqOps_sound {ops : List Oper} {ovs : List (Nat × Ov)} {Q : Exit → Act → World → Prop} : ∀ (l : List Oper) (i : Nat) (st : St) (S : Nat → Prop) (μ : Nat → Value) (a : Act) (w : World) (p : Prop), Rel C S μ st a w → seqOps C.P C.nt ops ovs i l st = (st', p) → p →
    (∀ S' μ' a' w', Rel C S' μ' st' a' w' → Q .normal a' w') → wpListIn (fen C.rd) 0 C.P ops.toArray Q l a w := by
  intro l
  induction l with
  | nil =>
    intro i st S μ a w p h hp hob hK
    simp only [seqOps, Prod.mk.injEq] at hp
    obtain ⟨rfl, _⟩ := hp
    exact hK _ _ _ _ h
  | cons o r ih =>
    intro i st S μ a w p h hp hob hK
    unfold seqOps at hp
    unfold wpListIn
    split at hp
    · rename_i hg
      rw [if_pos (guardD_sound h hg)]
      generalize hq : seqOp C.P C.nt (ovAt ovs i) o st = q at hp
      obtain ⟨st1, p1⟩ := q
      simp only at hp
      generalize hq2 : seqOps C.P C.nt ops ovs (i + 1) r st1 = q2 at hp
      obtain ⟨st2, p2⟩ := q2
      simp only [Prod.mk.injEq] at hp
      obtain ⟨rfl, rfl⟩ := hp
      have hnd : isDefer o = false := by
        cases hd : isDefer o
        · rfl
        · exact (seqOp_defer hd hq hob.1).elim
      refine wpIn_of hnd (seqOp_sound h hq hob.1 (fun S' μ' a' w' hR => ?_))
      exact ih (i + 1) st1 S' μ' a' w' p2 hR hq2 hob.2 hK
    · rename_i hg
      rw [if_neg (by rw [guardD_sound h hg]; simp)]
      refine ⟨fun f _ => fen_fn _ f, ?_⟩
      generalize hq : skipOp C.nt st o.dst = q at hp
      obtain ⟨st1, p1⟩ := q
      simp only at hp
      generalize hq2 : seqOps C.P C.nt ops ovs (i + 1) r st1 = q2 at hp
      obtain ⟨st2, p2⟩ := q2
      simp only [Prod.mk.injEq] at hp
      obtain ⟨rfl, rfl⟩ := hp
      exact ih (i + 1) st1 _ _ _ _ p2 (h.ePut hq hob.1 (.tup [] #[] rfl (fun j y u hy _ => by simp at hy))).2 hq2 hob.2 hK
    · exact fail_elim hp hob

end
end Go.Proofs.Ytjmfaebimgnblaa
