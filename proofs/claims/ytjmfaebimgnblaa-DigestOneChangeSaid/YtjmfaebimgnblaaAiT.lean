/-
  A call that is walked in place, and a round: on pure data. Generic: over any program.
-/
import Derived.Test.YtjmfaebimgnblaaAiK
namespace Go.Proofs.Ytjmfaebimgnblaa
open Go.RowKit
set_option linter.unusedVariables false
set_option linter.unusedSimpArgs false

section
variable {C : Ctx} {S : Nat → Prop} {μ : Nat → Value} {st st' : St} {a : Act} {w w' : World} {p : Prop}

theorem Rel.ePut (h : Rel C S μ st a w) {dst : Option Nat} {d : D} {q : Prop} {u : Value} (hp : ePut C.nt st dst d q = (st', p)) (hob : p) (hd : DRep S μ w d u) : q ∧ Rel C S μ st' (a.put dst u) w := by
  unfold Proofs.Ytjmfaebimgnblaa.ePut at hp
  split at hp
  · split at hp
    · rename_i t ht
      rw [Nat.blt_eq] at ht
      simp only [Prod.mk.injEq] at hp
      obtain ⟨rfl, rfl⟩ := hp
      exact ⟨hob, h.put ht hd⟩
    · exact fail_elim hp hob
  · simp only [Prod.mk.injEq] at hp
    obtain ⟨rfl, rfl⟩ := hp
    exact ⟨hob, h⟩

theorem RepsA.evals (h : Rel C S μ st a w) (args : Array Operand) : RepsA S μ w (args.toList.map (evD st.env)) (args.map a.eval) := by
  refine ⟨by simp, fun j y z hy hz => ?_⟩
  simp only [List.getElem?_map, Array.getElem?_toList, Array.getElem?_map] at hy hz
  cases hj : args[j]? with
  | none => rw [hj] at hy; cases hy
  | some x => rw [hj] at hy hz; simp at hy hz; subst hy hz; exact h.eval x

theorem RepsA.app {cs ds : List D} {us vs : Array Value} (h : RepsA S μ w cs us) (k : RepsA S μ w ds vs) : RepsA S μ w (cs ++ ds) (us ++ vs) := by
  refine ⟨by simp [h.1, k.1], fun j y z hy hz => ?_⟩
  by_cases hj : j < cs.length
  · rw [List.getElem?_append_left hj] at hy
    rw [Array.getElem?_append_left (by rw [h.1]; exact hj)] at hz
    exact h.2 j y z hy hz
  · rw [List.getElem?_append_right (by omega)] at hy
    rw [Array.getElem?_append_right (by rw [h.1]; omega), h.1] at hz
    exact k.2 _ y z hy hz

theorem run_callFunc' {P : Program} {f : FuncId} (h : isGoF P f = true) (args : Array Value) (w : World) : (callFunc f args).run P w = .ok (.enter f args) w := by
  unfold isGoF at h
  cases hf : P.funcs[f]? with
  | none => rw [hf] at h; cases h
  | some fn =>
    rw [hf] at h
    simp only [Bool.and_eq_true, Bool.not_eq_true'] at h
    have n1 : fn.name ≠ "runtime.NumGoroutine" := by simpa using h.1
    have n2 : fn.body ≠ none := fun e => by rw [e] at h; simp at h
    simp [callFunc, program, Sem.run, hf, n1, n2]

theorem ePut_ob {nt : Nat} {dst : Option Nat} {d : D} {q : Prop} (hp : ePut nt st dst d q = (st', p)) (hob : p) : q := by
  unfold ePut at hp
  split at hp
  · split at hp
    · simp only [Prod.mk.injEq] at hp; rw [← hp.2] at hob; exact hob
    · exact fail_elim hp hob
  · simp only [Prod.mk.injEq] at hp; rw [← hp.2] at hob; exact hob

theorem grown_refl (w : World) : w.grownBy w none := ⟨rfl, rfl, rfl, Nat.le_refl _, fun _ _ _ => rfl⟩

/-- This activation waits. -/
theorem Rel.pushFrame (h : Rel C S μ st a w) (hf : freeE st.heap.length st.env = true) (hh : freeH st.heap.length st.heap = true) :
    Rel C S (updM μ st.heap.length (.bool true)) ⟨st.env, st.heap ++ [.frame a.tmps st.env]⟩ a w := by
  have := h.upd (id := st.heap.length) (B := .frame a.tmps st.env) (row := none) (u := .bool true) (grown_refl w) (fun k hk => by cases hk) (Nat.le_refl _)
    ⟨rfl, fun t d hm => ?_⟩ (fun b hb => by simp [blkOf] at hb) (.inr ⟨fun A hA => by simp at hA, hf, hh⟩)
  · rw [show setBox st.heap st.heap.length (.frame a.tmps st.env) = st.heap ++ [.frame a.tmps st.env] from by simp [setBox]] at this
    exact this
  · obtain ⟨q1, q2⟩ := h.env t d hm
    refine ⟨by rw [h.tsize]; exact q1, q2.stable (fun _ h _ => h) (fun _ _ _ => rfl) (Nat.le_refl _) (fun i hi => updM_other _ _ (fun e => ?_))⟩
    subst e
    rw [freeE_mem hf hm] at hi
    cases hi

/-- The record of a loop turns. -/
theorem Rel.loopTo (h : Rel C S μ st a w) {id l : Nat} {tm : Array Value} {nt : Nat} {env : List (Nat × D)} {ps : List Nat} {as bd : Code} {s : LoopState} {pe : Option Code} (hbox : st.heap[id]? = some (.loop l tm nt env ps as bd s pe)) (s' : LoopState) (pe' : Option Code) :
    ∃ r : Loop, w.heap[l]? = some (.loop r) ∧ r.state = s ∧ r.pending = pe ∧ r.params = ps.toArray ∧ r.assign = as ∧ r.body = bd ∧ r.tmps = tm ∧ tm.size = nt ∧
      Rel C S μ ⟨st.env, st.heap.set id (.loop l tm nt env ps as bd s' pe')⟩ a (w.putObj l (.loop { r with state := s', pending := pe' })) := by
  obtain ⟨r, hμ, g1, g2, g3, g4, g5, g6, g7, g8, g9⟩ := h.heap.box id _ hbox
  have hid : id < st.heap.length := (List.getElem?_eq_some_iff.1 hbox).1
  have hll : l < w.heap.size := (Array.getElem?_eq_some_iff.1 g1).1
  refine ⟨r, g1, g2, g3, g4, g5, g6, g7, g8, ?_⟩
  have hblk : blkOf (μ id) = some l := by rw [hμ]; rfl
  have hg : w.grownBy (w.putObj l (.loop { r with state := s', pending := pe' })) (some l) := ⟨rfl, rfl, rfl, by rw [World.putObj_size]; exact Nat.le_refl _, fun k _ hk => World.putObj_heap_other (fun e => hk (by rw [e]))⟩
  have hSl : ¬ S l := h.heap.notS id _ l hbox rfl hblk
  have := h.upd (id := id) (B := .loop l tm nt env ps as bd s' pe') (row := some l) (u := μ id) hg (fun k hk => ⟨_, hbox, rfl, by cases hk; exact hblk⟩) (Nat.le_of_lt hid) ?_ (fun b hb => .inl (by rw [← hblk]; exact hb.symm ▸ rfl)) (.inl ⟨rfl, .inl rfl⟩)
  · have e1 : updM μ id (μ id) = μ := by funext i; unfold updM; split <;> simp_all
    rw [e1] at this
    have e2 : setBox st.heap id (.loop l tm nt env ps as bd s' pe') = st.heap.set id (.loop l tm nt env ps as bd s' pe') := by
      unfold setBox
      have : Nat.beq id st.heap.length = false := by
        cases hb : Nat.beq id st.heap.length
        · rfl
        · rw [Nat.beq_eq] at hb; omega
      rw [this]
      rfl
    rw [e2] at this
    exact this
  · have e1 : updM μ id (μ id) = μ := by funext i; unfold updM; split <;> simp_all
    rw [e1]
    refine ⟨_, hμ, World.putObj_heap_same hll, rfl, rfl, g4, g5, g6, g7, g8, fun t d hm => ?_⟩
    obtain ⟨q1, q2⟩ := g9 t d hm
    refine ⟨q1, q2.stable (fun _ h _ => h) (fun b hb _ => World.putObj_heap_other (fun e => hSl (e ▸ hb))) (by rw [World.putObj_size]; exact Nat.le_refl _) (fun _ _ => rfl)⟩

theorem isDead_lt {H : List Box} {n : Nat} (h : isDead H[n]? = true) : n < H.length ∧ H[n]? = some .dead := by
  unfold isDead at h
  split at h
  · rename_i hh; exact ⟨(List.getElem?_eq_some_iff.1 hh).1, hh⟩
  · cases h

/-- The boxes behind a call, once the waiting activation's own box is forgotten. -/
theorem dead_or {H L : List Box} {n : Nat} {F : Box} (hd : isDead H[n]? = true) (ht : L.take (H.set n F).length = H.set n F) : L[n]? = some F ∧ ∀ (i : Nat) (B : Box), H[i]? = some B → B = .dead ∨ L[i]? = some B := by
  obtain ⟨h1, h2⟩ := isDead_lt hd
  have key : ∀ i, i < H.length → L[i]? = (H.set n F)[i]? := fun i hi => by
    rw [← ht, List.getElem?_take, if_pos (by simpa using hi)]
  refine ⟨by rw [key n h1, List.getElem?_set_self h1], fun i B hB => ?_⟩
  have hi : i < H.length := (List.getElem?_eq_some_iff.1 hB).1
  by_cases e : i = n
  · subst e
    rw [h2] at hB
    cases hB
    exact .inl rfl
  · rw [key i hi, List.getElem?_set_ne (fun h => e h.symm)]
    exact .inr hB

theorem eInl_sound (h : Rel C S μ st a w) {dst : Option Nat} {g : FuncId} {ds : List D} {r : D} {env : List (Nat × D)} {H : List Box} {us : Array Value} (hus : ∀ (μ1 : Nat → Value) (H1 : List Box), Rel C S μ1 ⟨st.env, H1⟩ a w → RepsA S μ1 w ds us)
    (hp : eInl C.P C.nt st dst g ds r env H = (st', p)) (hob : p) {K : Act → World → Prop} (hK : ∀ S' μ' a' w', Rel C S' μ' st' a' w' → K a' w') : isGoF C.P g = true ∧ Calls C.P g us w (fun e w' => ∃ u, e = .returned u ∧ K (a.put dst u) w') := by
  unfold eInl at hp
  split at hp
  · rename_i hc
    simp only [Bool.and_eq_true] at hc
    obtain ⟨⟨⟨hgo, hfe⟩, hfh⟩, hdd⟩ := hc
    refine ⟨hgo, ?_⟩
    obtain ⟨fn, c, hf, hb, hn, hev⟩ := ePut_ob hp hob a.tmps
    rw [Nat.ble_eq] at hn
    have h1 := h.pushFrame hfe hfh
    obtain ⟨mk, d1, d2, d3⟩ := h1.defers
    have hrep := hus _ _ h1
    let C1 : Ctx := ⟨C.P, C.W, C.S0, fn.ntmps, mk ++ C.susp, none⟩
    have hR : Rel C1 S (updM μ st.heap.length (.bool true)) ⟨argsE 0 ds, st.heap ++ [.frame a.tmps st.env]⟩ (actOf us fn.ntmps) w :=
      h1.turn (C1 := C1) (mk := mk) (mk1 := []) d2 d3 rfl rfl rfl (act_size hrep.1 hn) (act_env hrep hn)
    refine (calls_of_ev (C := C1) hf hb rfl hR (hev C1 rfl rfl rfl) (fun e st' hq => ?_)).mono ?_
    · cases e <;> first | exact ⟨.inl rfl, hq.1⟩ | exact ⟨.inr rfl, hq.1⟩ | exact hq.elim
    rintro e w' ⟨u, e0, st1, S', μ', a1, rfl, hq1, hR1, hd1⟩
    refine ⟨u, rfl, ?_⟩
    have hq2 : eqD (resV C.P fn st1) r ∧ st1.heap.take (H.set st.heap.length (.frame a.tmps env)).length = H.set st.heap.length (.frame a.tmps env) := by
      cases e0 <;> first | exact hq1.2 | exact hq1.elim
    obtain ⟨hbox, hrest⟩ := dead_or hdd hq2.2
    obtain ⟨_, henv⟩ := hR1.heap.box _ _ hbox
    have hb2 := hR1.back (C := C) (a := a) (mk := mk) rfl rfl rfl d1 h.tsize (env := env) (fun t d hm => by
      have := henv t d hm
      rw [h.tsize] at this
      exact this)
    have hc2 := hb2.heapTo (H := H) hrest
    exact hK _ _ _ _ (hc2.ePut hp hob (eqD_rep hq2.1 hd1)).2
  · exact fail_elim hp hob

theorem putPs_env {S : Nat → Prop} {μ : Nat → Value} {w : World} {nt : Nat} : ∀ (ps : List Nat) (ds : List D) (us : List Value) (env : List (Nat × D)) (tm : Array Value), ds.length = us.length → (∀ (j : Nat) (y : D) (u : Value), ds[j]? = some y → us[j]? = some u → DRep S μ w y u) → tm.size = nt → ps.all (fun p => Nat.blt p nt) = true →
    (∀ (t : Nat) (d : D), (t, d) ∈ env → t < nt ∧ DRep S μ w d (tm.getD t undef)) →
    ((ps.zip us).foldl (fun (tmps : Array Value) (x : Nat × Value) => tmps.setIfInBounds x.1 x.2) tm).size = nt ∧
    ∀ (t : Nat) (d : D), (t, d) ∈ putPs ps ds env → t < nt ∧ DRep S μ w d (((ps.zip us).foldl (fun (tmps : Array Value) (x : Nat × Value) => tmps.setIfInBounds x.1 x.2) tm).getD t undef) := by
  intro ps
  induction ps with
  | nil => intro ds us env tm _ _ hs _ he; exact ⟨hs, fun t d hm => he t d (by cases ds <;> exact hm)⟩
  | cons p ps ih =>
    intro ds us env tm hl hd hs hp he
    cases ds with
    | nil =>
      cases us with
      | nil => exact ⟨hs, fun t d hm => he t d hm⟩
      | cons u us => simp at hl
    | cons d0 ds =>
      cases us with
      | nil => simp at hl
      | cons u us =>
        simp only [List.all_cons, Bool.and_eq_true, Nat.blt_eq] at hp
        refine ih ds us (putE env p d0) (tm.setIfInBounds p u) (by simpa using hl) (fun j y v hy hv => hd (j + 1) y v (by simpa using hy) (by simpa using hv)) (by simpa using hs) hp.2 (fun t d hm => ?_)
        rcases List.mem_cons.1 hm with hm | hm
        · cases hm
          refine ⟨hp.1, ?_⟩
          have : (tm.setIfInBounds p u).getD p undef = u := by
            have hts : p < tm.size := by omega
            simp [hts]
          rw [this]
          exact hd 0 d0 u rfl rfl
        · obtain ⟨h1, h2⟩ := dropE_mem hm
          obtain ⟨q1, q2⟩ := he t d h1
          refine ⟨q1, ?_⟩
          have : (tm.setIfInBounds p u).getD t undef = tm.getD t undef := by
            simp only [Array.getD_eq_getD_getElem?]
            rw [Array.getElem?_setIfInBounds_ne (fun e => h2 e.symm)]
          rw [this]
          exact q2

theorem eYield_sound (h : Rel C S μ st a w) {o : Oper} {f : Operand} {args : Array Operand} {ats : Array TypeId} (ho : o.op = .call ⟨.value f, args, ats⟩) {id : Nat} (hf : evD st.env f = .yld id) {b : Bool} {env : List (Nat × D)} {H : List Box}
    (hp : eYield C.P C.nt st o.dst id (args.toList.map (evD st.env)) b env H = (st', p)) (hob : p) {K : Act → World → Prop} {Q : Exit → Act → World → Prop} (hK : ∀ S' μ' a' w', Rel C S' μ' st' a' w' → K a' w') :
    o.uponIn (fen C.rd) 0 C.P a K Q ((execOp a.eval o).run C.P w) := by
  unfold eYield at hp
  split at hp
  · rename_i l tm ntL envL ps as body hbox
    split at hp
    · rename_i hc
      simp only [Bool.and_eq_true, Nat.beq_eq] at hc
      obtain ⟨⟨⟨⟨hfe, hfh⟩, hdd⟩, hpl⟩, hps⟩ := hc
      have hq := ePut_ob hp hob a.tmps
      have hid : id < st.heap.length := (List.getElem?_eq_some_iff.1 hbox).1
      have hfv : DRep S μ w (.yld id) (a.eval f) := hf ▸ h.eval f
      obtain ⟨r0, hμ0, g1, g2, g3, g4, g5, g6, g7, g8, g9⟩ := h.heap.box id _ hbox
      have hfe' : a.eval f = .func (.yield l) #[] #[] := by
        generalize a.eval f = uf at hfv
        cases hfv with
        | yld _ l' hl =>
          rw [hμ0] at hl
          simp only [blkOf, Option.some.injEq] at hl
          rw [hl]
      have hsz : (args.map a.eval).size = r0.params.size := by
        rw [g4]
        simp only [Array.size_map, List.size_toArray]
        simpa using hpl.symm
      have hrun : (execOp a.eval o).run C.P w = .ok (.round l r0.fn ((r0.params.zip (args.map a.eval)).foldl (fun tmps (t, a) => tmps.setIfInBounds t a) r0.tmps) r0.assign r0.body) w := by
        have := run_yield (P := C.P) g1 hsz
        simp [execOp, ho, resolve, hfe', Deferred.ofValue, invoke, this]
      rw [hrun, Oper.uponIn_round]
      refine ⟨fun hx => (by rw [fen_depth] at hx; cases hx), ?_⟩
      have h1 := h.pushFrame hfe hfh
      have hid1 : (st.heap ++ [Box.frame a.tmps st.env])[id]? = some (.loop l tm ntL envL ps as body .ready none) := by rw [List.getElem?_append_left hid]; exact hbox
      obtain ⟨mk, d1, d2, d3⟩ := h1.defers
      let C1 : Ctx := ⟨C.P, C.W, C.S0, ntL, mk ++ C.susp, some l⟩
      have hfen : (fen C.rd).inRound l = fen (some l) := by cases C.rd <;> rfl
      have hargs := RepsA.evals h1 args
      obtain ⟨r2, _, m1, _, _, _, _, _, m7, m8, m9⟩ := h1.heap.box id _ hid1
      have hpe := putPs_env (S := S) (w := w) ps (args.toList.map (evD st.env)) (args.map a.eval).toList envL tm (by simp) (fun j y u hy hu => hargs.2 j y u hy (by simpa using hu)) g8 hps m9
      have hfold : (r0.params.zip (args.map a.eval)).foldl (fun tmps (t, a) => tmps.setIfInBounds t a) r0.tmps = (ps.zip (args.map a.eval).toList).foldl (fun (tmps : Array Value) (x : Nat × Value) => tmps.setIfInBounds x.1 x.2) tm := by
        rw [← Array.foldl_toList, Array.toList_zip, g4, g7]
      rw [hfold, g5, g6]
      have h3 : Rel C1 S _ ⟨putPs ps (args.toList.map (evD st.env)) envL, st.heap ++ [Box.frame a.tmps st.env]⟩ { tmps := (ps.zip (args.map a.eval).toList).foldl (fun (tmps : Array Value) (x : Nat × Value) => tmps.setIfInBounds x.1 x.2) tm, defers := [] } w :=
        h1.turn (C1 := C1) (mk := mk) (mk1 := []) d2 d3 rfl rfl rfl hpe.1 hpe.2
      refine roundIn_of_wpIn (fen_fn _ _) ?_
      rw [hfen]
      refine wpIn_mono (hq C1 rfl rfl rfl _ _ _ _ h3) ?_
      rintro e1 a1 w1 ⟨sta, Sa, μa, hqa, hRa⟩
      cases e1 <;> first | exact hqa.elim | skip
      simp only [beginQ] at hqa
      split at hqa
      case h_2 => exact hqa.elim
      rename_i l1 tm1 nt1 env1 ps1 as1 bd1 hbxa
      obtain ⟨rfl, hqb⟩ := hqa
      obtain ⟨r, k1, k2, k3, k4, k5, k6, k7, k8, h2⟩ := hRa.loopTo hbxa .busy none
      have hbeg : (Instr.beginRound l1).run C.P w1 = .ok () (w1.putObj l1 (.loop { r with state := .busy, pending := none })) := by
        rw [run_beginRound k1 k2]
        rw [show ({ r with state := .busy } : Loop) = { r with state := .busy, pending := none } from by rw [← k3]]
      refine ⟨_, hbeg, ?_⟩
      refine wpIn_mono (hqb _ _ _ _ h2) ?_
      rintro e a' w' ⟨st1, S', μ', hq1, hR1⟩
      unfold roundQ at hq1
      split at hq1
      · rename_i l2 tm2 nt2 env2 ps2 as2 bd2 s2 p2 hbx
        obtain ⟨rfl, hans, htake⟩ := hq1
        have fin : ∀ jump : Option Code, endAns e = some jump.isNone → endState e = (if jump.isNone then .ready else .done) → endPend e = jump → ∃ v w2, (Instr.endRound l2 jump).run C.P w' = .ok v w2 ∧ K (a.put o.dst v) w2 := by
          intro jump j1 j2 j3
          obtain ⟨r3, n1, n2, n3, n4, n5, n6, n7, n8, h4⟩ := hR1.loopTo hbx (endState e) (endPend e)
          refine ⟨_, _, run_endRound jump n1, ?_⟩
          obtain ⟨hbf, hrest⟩ := dead_or hdd htake
          obtain ⟨_, henv⟩ := h4.heap.box _ _ hbf
          have hb2 := h4.back (C := C) (a := a) (mk := mk) rfl rfl rfl d1 h.tsize (env := env) (fun t d hm => by
            have := henv t d hm
            rw [h.tsize] at this
            exact this)
          have hc2 := hb2.heapTo (H := H) hrest
          rw [j2, j3] at hc2
          have hb3 : b = jump.isNone := by rw [hans] at j1; exact Option.some.inj j1
          refine hK _ _ _ _ (hc2.ePut hp hob ?_).2
          rw [← hb3]
          exact .v _ _ (.bool b)
        cases e with
        | normal => exact fin none rfl rfl rfl
        | ret => exact fin (some .ret) rfl rfl rfl
        | exit i => exact fin (some (.exit i)) rfl rfl rfl
        | goto i => cases hans
        | panic ch => cases hans
        | outgrown => cases hans
      · exact hq1.elim
    · exact fail_elim hp hob
  · exact fail_elim hp hob

end
end Go.Proofs.Ytjmfaebimgnblaa
