/-
  Code on pure data; calls within a call: activations that wait, activations that end. Generic: over any program.
-/
import Derived.Test.YtjmfaebimgnblaaAiF
import Derived.Test.YtjmfaebimgnblaaAiR
namespace Go.Proofs.Ytjmfaebimgnblaa
open Go.RowKit
set_option linter.unusedVariables false
set_option linter.unusedSimpArgs false

/-- Code c, begun in a state that reads as st, ends as Q says. -/
def Ev (C : Ctx) (c : Code) (Q : Exit → St → Prop) (st : St) : Prop :=
  ∀ (a : Act) (w : World) (S : Nat → Prop) (μ : Nat → Value), Rel C S μ st a w → c.wpIn (fen C.rd) 0 C.P (fun e a' w' => ∃ st' S' μ', Q e st' ∧ Rel C S' μ' st' a' w') a w

/-- A result. -/
def res1 (P : Program) (st : St) : ResultVar → R1
  | .tmp t => (lookE st.env t, True)
  | .cell a T => match lookE st.env a with
    | .ptr id i sz off => pLoad P T st.heap (.ptr id i sz off)
    | _ => fail1
def resL (P : Program) (st : St) : List ResultVar → List D × Prop
  | [] => ([], True)
  | r :: rs => match res1 P st r with
    | (d, p) => match resL P st rs with
      | (ds, q) => (d :: ds, p ∧ q)
def resR (P : Program) (rs : List ResultVar) (st : St) : R1 :=
  match resL P st rs with
  | ([d], p) => (d, p)
  | (ds, p) => (.tup ds, p)
/-- The results can be read; what they are. -/
def resOk (P : Program) (fn : Func) (st : St) : Prop := (resR P fn.results.toList st).2
def resV (P : Program) (fn : Func) (st : St) : D := (resR P fn.results.toList st).1

section
variable {C : Ctx} {S : Nat → Prop} {μ : Nat → Value} {st : St} {a : Act} {w : World}

theorem Rel.resL (h : Rel C S μ st a w) : ∀ (rs : List ResultVar) (ds : List D) (p : Prop), Proofs.Ytjmfaebimgnblaa.resL C.P st rs = (ds, p) → p →
    ∃ us : List Value, (rs.mapM (fun r => (match r with
      | .tmp t => pure (a.tmps.getD t undef)
      | .cell x t => do loadVar t (← asAddr (a.tmps.getD x undef)) : Sem Value))).run C.P w = .ok us w ∧ us.length = ds.length ∧ ∀ (j : Nat) (y : D) (u : Value), ds[j]? = some y → us[j]? = some u → DRep S μ w y u := by
  intro rs
  induction rs with
  | nil =>
    intro ds p hp _
    simp only [Proofs.Ytjmfaebimgnblaa.resL, Prod.mk.injEq] at hp
    obtain ⟨rfl, _⟩ := hp
    exact ⟨[], rfl, rfl, fun j y u hy => by simp at hy⟩
  | cons r rs ih =>
    intro ds p hp hob
    unfold Proofs.Ytjmfaebimgnblaa.resL at hp
    generalize h1 : res1 C.P st r = q1 at hp
    obtain ⟨d1, p1⟩ := q1
    simp only at hp
    generalize h2 : Proofs.Ytjmfaebimgnblaa.resL C.P st rs = q2 at hp
    obtain ⟨ds2, p2⟩ := q2
    simp only [Prod.mk.injEq] at hp
    obtain ⟨rfl, rfl⟩ := hp
    obtain ⟨us, e1, e2, e3⟩ := ih ds2 p2 h2 hob.2
    have hone : ∃ u, ((match r with
      | .tmp t => pure (a.tmps.getD t undef)
      | .cell x t => do loadVar t (← asAddr (a.tmps.getD x undef)) : Sem Value)).run C.P w = .ok u w ∧ DRep S μ w d1 u := by
      cases r with
      | tmp t =>
        simp only [res1, Prod.mk.injEq] at h1
        obtain ⟨rfl, _⟩ := h1
        exact ⟨_, rfl, h.eval (.tmp t)⟩
      | cell x T =>
        unfold res1 at h1
        simp only at h1
        split at h1
        · rename_i id i sz off hl
          have hv := h.eval (.tmp x)
          simp only [evD] at hv
          rw [hl] at hv
          obtain ⟨u, r1, r2⟩ := pLoad_sound h.heap hv h1 hob.1
          obtain ⟨b, _, hu⟩ := ptr_inv hv
          refine ⟨u, ?_, r2⟩
          have he : a.tmps.getD x undef = .pointer (some ⟨b, i * sz + off, none⟩) := hu
          rw [hu] at r1
          simp only [he]
          simp only [Instr.loadAt, Instr.sureAddr, Sem.run_bind, Sem.run_pure, Result.andThen_ok] at r1
          simp only [asAddr, Sem.run_bind, Sem.run_pure, Result.andThen_ok]
          exact r1
        · cases h1; exact hob.1.elim
    obtain ⟨u, f1, f2⟩ := hone
    refine ⟨u :: us, ?_, by simp [e2], fun j y v hy hv => ?_⟩
    · simp only [List.mapM_cons, Sem.run_bind, f1, Result.andThen_ok, e1, Sem.run_pure]
    · cases j with
      | zero => simp at hy hv; subst hy hv; exact f2
      | succ j => exact e3 j y v (by simpa using hy) (by simpa using hv)

theorem Rel.results (h : Rel C S μ st a w) {fn : Func} (hob : resOk C.P fn st) : ∃ u, (results fn a.tmps).run C.P w = .ok u w ∧ DRep S μ w (resV C.P fn st) u := by
  unfold resOk at hob
  unfold resV
  generalize hq : Proofs.Ytjmfaebimgnblaa.resL C.P st fn.results.toList = q at hob ⊢
  obtain ⟨ds, p⟩ := q
  have hp : p := by
    unfold resR at hob
    rw [hq] at hob
    split at hob <;> rename_i he <;> cases he <;> exact hob
  obtain ⟨us, e1, e2, e3⟩ := h.resL _ _ _ hq hp
  have hm : (fn.results.mapM (fun r => (match r with
      | .tmp t => pure (a.tmps.getD t undef)
      | .cell x t => do loadVar t (← asAddr (a.tmps.getD x undef)) : Sem Value))).run C.P w = .ok us.toArray w := by
    rw [Array.mapM_eq_mapM_toList]
    have hb : ∀ (s : Sem (List Value)) (r : List Value), s.run C.P w = .ok r w → ((s.bind (Sem.pure ∘ List.toArray)) : Sem (Array Value)).run C.P w = .ok r.toArray w := by
      intro s r h
      show Sem.run C.P (s >>= (Sem.pure ∘ List.toArray)) w = _
      rw [Sem.run_bind, h]
      rfl
    exact hb _ _ e1
  refine ⟨if h : us.toArray.size = 1 then us.toArray[0] else .tuple us.toArray, ?_, ?_⟩
  · unfold Go.results
    rw [Sem.run_bind]
    refine (congrArg (fun r => Result.andThen r _) hm).trans ?_
    rfl
  · unfold resR
    rw [hq]
    cases ds with
    | nil =>
      have : us = [] := List.eq_nil_of_length_eq_zero e2
      subst this
      exact .tup _ _ rfl (fun j y u hy => by simp at hy)
    | cons d ds =>
      cases ds with
      | nil =>
        obtain ⟨u, rfl⟩ := List.length_eq_one_iff.1 (by simpa using e2)
        exact e3 0 d u rfl rfl
      | cons d2 ds =>
        rw [dif_neg (by simp [e2])]
        exact .tup _ _ (by simp [e2]) (fun j y u hy hu => e3 j y u hy (by simpa using hu))

end

/-- The slots of the arguments. -/
def argsE : Nat → List D → List (Nat × D)
  | _, [] => []
  | i, d :: r => (i, d) :: argsE (i + 1) r
theorem argsE_mem : ∀ {ds : List D} {i t : Nat} {d : D}, (t, d) ∈ argsE i ds → i ≤ t ∧ ds[t - i]? = some d
  | d' :: r, i, t, d, h => by
    rcases List.mem_cons.1 h with h | h
    · cases h; exact ⟨Nat.le_refl _, by simp⟩
    · obtain ⟨h1, h2⟩ := argsE_mem h
      refine ⟨by omega, ?_⟩
      rw [show t - i = (t - (i + 1)) + 1 from by omega]
      simpa using h2


def actOf (us : Array Value) (nt : Nat) : Act := { tmps := us ++ Array.replicate (nt - us.size) undef, defers := [] }
def colOf (b : Nat) : Deferred := { target := .collected b, args := #[] }

section
variable {C C1 : Ctx} {S : Nat → Prop} {μ : Nat → Value} {st : St} {a a1 : Act} {w w' : World}

/-- Another activation of the same call tree. -/
theorem Rel.turn (h : Rel C S μ st a w) {mk mk1 : List Nat} (d2 : (mk1 ++ C1.susp).Nodup)
    (d3 : ∀ b ∈ mk1 ++ C1.susp, w.heap[b]? = some (.deferred (some [])) ∧ C.W.heap.size ≤ b ∧ ¬ S b ∧ ∀ (i : Nat) (A : Box), st.heap[i]? = some A → A.live = true → blkOf (μ i) ≠ some b)
    (hW : C1.W = C.W) (hS : C1.S0 = C.S0) (hd : a1.defers = mk1.map fun b => { target := .collected b, args := #[] }) (ht : a1.tmps.size = C1.nt) {env1 : List (Nat × D)}
    (he : ∀ (t : Nat) (d : D), (t, d) ∈ env1 → t < C1.nt ∧ DRep S μ w d (a1.tmps.getD t undef)) : Rel C1 S μ ⟨env1, st.heap⟩ a1 w :=
  ⟨by rw [hW]; exact h.os, by rw [hW]; exact h.tape, by rw [hW]; exact h.output, by rw [hW]; exact h.size, by rw [hW]; exact h.old, by rw [hS]; exact h.mono, by rw [hS, hW]; exact h.new, h.slt, he, h.heap, by rw [hW]; exact h.may,
    ⟨mk1, hd, d2, by rw [hW]; exact d3⟩, ht⟩

/-- The activation that waited goes on. -/
theorem Rel.back (h : Rel C1 S μ st a1 w) {mk : List Nat} (hW : C1.W = C.W) (hS : C1.S0 = C.S0) (hs : C1.susp = mk ++ C.susp) (hd : a.defers = mk.map fun b => { target := .collected b, args := #[] }) (ht : a.tmps.size = C.nt)
    {env : List (Nat × D)} (he : ∀ (t : Nat) (d : D), (t, d) ∈ env → t < C.nt ∧ DRep S μ w d (a.tmps.getD t undef)) : Rel C S μ ⟨env, st.heap⟩ a w := by
  obtain ⟨mk', e1, e2, e3⟩ := h.defers
  rw [hs] at e2 e3
  exact h.turn (mk := mk') (mk1 := mk) (List.nodup_append.1 e2).2.1 (fun b hb => e3 b (List.mem_append_right _ hb)) hW.symm hS.symm hd ht he

/-- Boxes are forgotten. -/
theorem Rel.heapTo (h : Rel C S μ st a w) {H : List Box} (hH : ∀ (i : Nat) (B : Box), H[i]? = some B → B = .dead ∨ st.heap[i]? = some B) : Rel C S μ ⟨st.env, H⟩ a w := by
  have live : ∀ (i : Nat) (B : Box), H[i]? = some B → B.live = true → st.heap[i]? = some B := fun i B hB hl => by
    rcases hH i B hB with rfl | h1
    · cases hl
    · exact h1
  refine ⟨h.os, h.tape, h.output, h.size, h.old, h.mono, h.new, h.slt, h.env, ⟨fun i B hB => ?_, fun i j A B b hA hB la lb => h.heap.apart i j A B b (live i A hA la) (live j B hB lb) la lb, fun i A b hA la => h.heap.notS i A b (live i A hA la) la⟩,
    fun i A b hA la => h.may i A b (live i A hA la) la, ?_, h.tsize⟩
  · rcases hH i B hB with rfl | h1
    · trivial
    · exact h.heap.box i B h1
  · obtain ⟨mk, d1, d2, d3⟩ := h.defers
    refine ⟨mk, d1, d2, fun b hb => ?_⟩
    obtain ⟨q1, q2, q3, q4⟩ := d3 b hb
    exact ⟨q1, q2, q3, fun i A hA hl => q4 i A (live i A hA hl) hl⟩

/-- A mark is come to: its block is shut. -/
theorem Rel.shut (h : Rel C S μ st a w) {b : Nat} {ds : List Deferred} (hd : a.defers = { target := .collected b, args := #[] } :: ds) :
    w.heap[b]? = some (.deferred (some [])) ∧ Rel C S μ st { a with defers := ds } (w.putObj b (.deferred none)) := by
  obtain ⟨mk, d1, d2, d3⟩ := h.defers
  cases mk with
  | nil => rw [hd] at d1; cases d1
  | cons b' mk =>
    rw [hd] at d1
    simp only [List.map_cons, List.cons.injEq, Deferred.mk.injEq, Target.collected.injEq, and_true] at d1
    obtain ⟨rfl, d1⟩ := d1
    obtain ⟨q1, q2, q3, q4⟩ := d3 b (by simp)
    have hlt : b < w.heap.size := (Array.getElem?_eq_some_iff.1 q1).1
    have hne : ∀ k, k ≠ b → (w.putObj b (.deferred none)).heap[k]? = w.heap[k]? := fun k hk => World.putObj_heap_other hk
    have hS : ∀ k, S k → (w.putObj b (.deferred none)).heap[k]? = w.heap[k]? := fun k hk => hne k (fun e => q3 (e ▸ hk))
    have hsz : (w.putObj b (.deferred none)).heap.size = w.heap.size := World.putObj_size
    refine ⟨q1, h.os, h.tape, h.output, by rw [hsz]; exact h.size, fun k hk => by rw [hne k (by omega)]; exact h.old k hk, h.mono, h.new, fun k hk => by rw [hsz]; exact h.slt k hk, fun t d hm => ?_, ⟨fun i A hA => ?_, h.heap.apart, h.heap.notS⟩, h.may, ⟨mk, d1, ?_, fun k hk => ?_⟩, h.tsize⟩
    · obtain ⟨r1, r2⟩ := h.env t d hm
      exact ⟨r1, r2.stable (fun _ h _ => h) (fun k hk _ => hS k hk) (by rw [hsz]; exact Nat.le_refl _) (fun _ _ => rfl)⟩
    · cases hl : A.live
      · cases A <;> first | trivial | cases hl
      · exact (h.heap.box i A hA).stable (fun _ h _ => h) (fun k hk _ => hS k hk) (by rw [hsz]; exact Nat.le_refl _) (fun _ _ => rfl) (fun k hk => hne k (fun e => q4 i A hA hl (e ▸ hk)))
    · rw [List.cons_append] at d2
      exact (List.nodup_cons.1 d2).2
    · obtain ⟨r1, r2, r3, r4⟩ := d3 k (by rw [List.cons_append]; exact List.mem_cons_of_mem _ hk)
      have hkb : k ≠ b := fun e => by
        rw [List.cons_append] at d2
        exact (List.nodup_cons.1 d2).1 (e ▸ hk)
      exact ⟨by rw [hne k hkb]; exact r1, r2, r3, r4⟩

theorem Rel.leaves {fn : Func} (hob : resOk C.P fn st) {F : Fence} {R : Ending → World → Prop} : ∀ (ds : List Deferred) (a : Act) (w : World), a.defers = ds → Rel C S μ st a w →
    (∀ w' a' u, Rel C S μ st a' w' → DRep S μ w' (resV C.P fn st) u → R (.returned u) w') → LeavesInM F 0 C.P fn a.tmps R ds .returning w
  | [], a, w, hd, h, hK => by
    obtain ⟨u, h1, h2⟩ := h.results hob
    exact ⟨u, h1, hK w a u h h2⟩
  | d :: ds, a, w, hd, h, hK => by
    have hdd : ∃ b, d = { target := .collected b, args := #[] } := by
      obtain ⟨mk, d1, _⟩ := h.defers
      rw [hd] at d1
      cases mk with
      | nil => cases d1
      | cons b mk => exact ⟨b, by simp only [List.map_cons, List.cons.injEq] at d1; exact d1.1⟩
    obtain ⟨b, rfl⟩ := hdd
    obtain ⟨q1, q2⟩ := h.shut hd
    refine ⟨by simp, .inl ⟨b, _, rfl, run_takeDeferred q1, ?_⟩⟩
    exact Rel.leaves hob ds { a with defers := ds } _ rfl q2 hK

/-- A call, out of the code of the function. -/
theorem calls_of_ev {f : FuncId} {fn : Func} {c : Code} (hf : C.P.funcs[f]? = some fn) (hb : fn.body = some c) (hrd : C.rd = none) {us : Array Value} {Q : Exit → St → Prop}
    (hR : Rel C S μ st (actOf us fn.ntmps) w) (hev : Ev C c Q st) (hQ : ∀ e st', Q e st' → (e = .normal ∨ e = .ret) ∧ resOk C.P fn st') :
    Calls C.P f us w (fun e w' => ∃ u e0 st' S' μ' a', e = .returned u ∧ Q e0 st' ∧ Rel C S' μ' st' a' w' ∧ DRep S' μ' w' (resV C.P fn st') u) := by
  have h := hev _ w S μ hR
  rw [hrd] at h
  refine callsIn_wide.1 (callsIn_of_wp_marks (n := 0) hf hb trivial (wpIn_mono h ?_))
  rintro e a' w' ⟨st', S', μ', hq, hR'⟩
  obtain ⟨he, hob⟩ := hQ e st' hq
  have key : LeavesInM Fence.wide 0 C.P fn a'.tmps (fun e w' => ∃ u e0 st' S' μ' a', e = .returned u ∧ Q e0 st' ∧ Rel C S' μ' st' a' w' ∧ DRep S' μ' w' (resV C.P fn st') u) a'.defers .returning w' :=
    hR'.leaves hob a'.defers a' w' rfl (fun w2 a2 u hR2 hu => ⟨u, e, st', S', μ', a2, rfl, hq, hR2, hu⟩)
  rcases he with rfl | rfl
  · exact key
  · exact key

end

/-- Argument values in their slots. -/
theorem act_env {S : Nat → Prop} {μ : Nat → Value} {w : World} {ds : List D} {us : Array Value} (h : RepsA S μ w ds us) {nt : Nat} (hn : ds.length ≤ nt) : ∀ (t : Nat) (d : D), (t, d) ∈ argsE 0 ds → t < nt ∧ DRep S μ w d ((actOf us nt).tmps.getD t undef) := by
  intro t d hm
  obtain ⟨_, h2⟩ := argsE_mem hm
  rw [Nat.sub_zero] at h2
  have ht := (List.getElem?_eq_some_iff.1 h2).1
  refine ⟨by omega, ?_⟩
  have hlt : t < us.size := by rw [h.1]; exact ht
  have : (us ++ Array.replicate (nt - us.size) undef).getD t undef = us[t] := by
    simp only [Array.getD_eq_getD_getElem?]
    rw [Array.getElem?_append_left hlt]
    simp [hlt]
  show DRep S μ w d ((us ++ Array.replicate (nt - us.size) undef).getD t undef)
  rw [this]
  exact h.2 t d _ h2 (Array.getElem?_eq_getElem hlt)
theorem act_size {ds : List D} {us : Array Value} (h : us.size = ds.length) {nt : Nat} (hn : ds.length ≤ nt) : (actOf us nt).tmps.size = nt := by
  show (us ++ Array.replicate (nt - us.size) undef).size = nt
  simp
  omega

end Go.Proofs.Ytjmfaebimgnblaa
