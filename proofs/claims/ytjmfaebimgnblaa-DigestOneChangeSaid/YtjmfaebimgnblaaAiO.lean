/-
  Regions that draw their order, on pure data: the rule. Generic: over any program.
-/
import Derived.Test.YtjmfaebimgnblaaAiN
namespace Go.Proofs.Ytjmfaebimgnblaa
open Go.RowKit
set_option linter.unusedVariables false
set_option linter.unusedSimpArgs false

section
variable {P : Program} {S : Nat → Prop} {μ : Nat → Value} {w : World}

theorem HeapRel.mono {S' : Nat → Prop} {w' : World} {H : List Box} (h : HeapRel S μ w H) (hS : ∀ b, S b → b < w.heap.size → S' b) (hb : Below w.heap.size w w') (hn : ∀ b, b < w.heap.size → S' b → S b) : HeapRel S' μ w' H := by
  refine ⟨fun i A hA => ?_, h.apart, fun i A b hA hl hb' hs => ?_⟩
  · cases hl : A.live
    · cases A <;> first | trivial | cases hl
    · exact (h.box i A hA).stable hS (fun b _ hl => hb.block b hl) hb.size (fun _ _ => rfl) (fun b hb' => hb.block b ((h.box i A hA).lt hl b hb'))
  · have hlt := (h.box i A hA).lt hl b hb'
    exact h.notS i A b hA hl hb' (hn b hlt hs)

theorem nSlice_sound {H : List Box} (hH : HeapRel S μ w H) (hS : ∀ b, S b → b < w.heap.size) {ov : Ov} {t : TypeId} {len : Nat} {parts : List (Nat × D)} {uparts : List (Nat × Value)} (h1 : parts.map (·.1) = uparts.map (·.1))
    (h2 : ∀ (j : Nat) (x : Nat × D) (u : Nat × Value), parts[j]? = some x → uparts[j]? = some u → DRep S μ w x.2 u.2) {d : D} {p : Prop} (hp : nSlice P H ov t len parts = (d, p)) (hob : p) :
    ∃ u vs E, (Instr.buildSlice t len uparts.toArray).run P w = .ok u (w.alloc (.cells vs E)) ∧ DRep (fun b => S b ∨ b = w.heap.size) μ (w.alloc (.cells vs E)) d u := by
  unfold nSlice at hp
  split at hp
  · rename_i E hu
    split at hp
    · rename_i z hz
      split at hp
      · rename_i hc
        simp only [Bool.and_eq_true, Nat.beq_eq, Nat.ble_eq] at hc
        obtain ⟨⟨⟨hk, hzl⟩, hs1⟩, hcap⟩ := hc
        obtain ⟨i, v, hi, hv, hzz, hsz, hby⟩ := info_of hz
        split at hp
        · rename_i cells hf
          have hzr : RepsA S μ w z v.cells := by
            rw [hzz]
            refine ⟨by simp, fun j y u hy hu => ?_⟩
            simp only [List.getElem?_map, Array.getElem?_toList, hu, Option.map_some, Option.some.injEq] at hy
            subst hy
            exact DRep.ofVal1 S μ w u
          have hflat := flat_reps (P := P) hzr hzl (by omega) len
          obtain ⟨vs, hfill, hvs⟩ := fillD_sound hH parts uparts _ cells _ h1 h2 hflat hf
          rw [← hsz] at hfill
          have hrun := run_buildSlice (P := P) (w := w) hu hi hv (by rw [hsz]; exact hcap) hfill
          have hcl : cells.length = len * szOf P E := by
            have : ∀ (parts : List (Nat × D)) (c0 out : List D), fillD H (fun i => some (i * szOf P E, szOf P E)) c0 parts = some out → out.length = c0.length := by
              intro parts
              induction parts with
              | nil => intro c0 out h; simp only [fillD, Option.some.injEq] at h; rw [h]
              | cons q r ih =>
                intro c0 out h
                obtain ⟨k, x⟩ := q
                unfold fillD at h
                split at h
                · split at h
                  · rename_i hcond
                    simp only [Bool.and_eq_true, Nat.ble_eq] at hcond
                    rw [ih _ _ h]
                    simp [splice]
                    omega
                  · cases h
                · cases h
            rw [this _ _ _ hf]
            simp [hzl]
          have hlen : len ≤ maxLen := by
            have : len * 1 ≤ len * szOf P E := Nat.mul_le_mul_left _ hs1
            simp only [maxLen]
            omega
          split at hp
          · rename_i E' sz' α enc' d' l'
            split at hp
            · rename_i hc
              simp only [Bool.and_eq_true, Nat.beq_eq] at hc
              obtain ⟨rfl, rfl⟩ := hc
              simp only [Prod.mk.injEq] at hp
              obtain ⟨rfl, rfl⟩ := hp
              refine ⟨_, vs, E, hrun, .v _ _ ?_⟩
              obtain ⟨q1, q2⟩ := eqRows_inv hob
              have hA : ArrL S (w.alloc (.cells vs E)) E (szOf P E) (l'.map enc') (.slice (some ⟨w.heap.size, 0, none⟩) len len) := by
                refine arr_new hvs hcl hlen (by rw [← q1]; simp [chunk]) (fun i x hx => ?_) hS
                obtain ⟨r, hr, hrow⟩ := q2 i x hx
                obtain ⟨r1, r2⟩ := eqRow_inv hrow
                obtain ⟨hin, rfl⟩ := chunk_get _ _ _ hr
                refine ⟨?_, fun j y hy => ?_⟩
                · rw [← r1, List.length_take, List.length_drop, hcl]
                  have : (i + 1) * szOf P E ≤ len * szOf P E := Nat.mul_le_mul_right _ hin
                  rw [Nat.succ_mul] at this
                  omega
                · obtain ⟨d, hd, hdy⟩ := r2 j y hy
                  exact ⟨d, chunk_cell hr hd, fun u hu => eqDV_rep hdy hu⟩
              have hB : BoxRel S μ (w.alloc (.cells vs E)) (.slice (some ⟨w.heap.size, 0, none⟩) len len) (.arr E (szOf P E) enc' d' l') := hA.box rfl
              exact own_rep hB (fun b hb => .inl hb) (fun b hb => .inr (by simp [blkOf] at hb; omega)) (fun b hb => by have := hS b hb; simp; omega)
            · cases hp; exact hob.elim
          · cases hp; exact hob.elim
        · cases hp; exact hob.elim
      · cases hp; exact hob.elim
    · cases hp; exact hob.elim
  · cases hp; exact hob.elim

/-- A call in a region: the callee reads S1. -/
theorem call_upd {H : List Box} (hH : HeapRel S μ w H) (hS : ∀ b, S b → b < w.heap.size) {f : FuncId} {ds : List D} {as : Option (List D)} {al : Bool} {r : D} {us : Array Value} (hc : callOb P f H ds as al r) (hus : RepsA S μ w ds us)
    (hal : al = false ∨ noOwn ds = true) (hr : noRef r = true) :
    Calls P f us w (fun e w' => ∃ u, e = .returned u ∧ Below w.heap.size w w' ∧ DRep (fun b => S b ∨ w.heap.size ≤ b) μ w' r u) := by
  have core : ∀ (as' : List D) (S1 : Nat → Prop), CallOk P f as' [] al r [] → (∀ b, S1 b → b < w.heap.size) → (al = true → ∀ b, S1 b → S b) → RepsA S1 μ w as' us →
      Calls P f us w (fun e w' => ∃ u, e = .returned u ∧ Below w.heap.size w w' ∧ DRep (fun b => S b ∨ w.heap.size ≤ b) μ w' r u) := by
    intro as' S1 hc h2 h3 hus
    refine (hc S1 μ w us h2 ⟨fun id B hB => by simp at hB, fun i j A B b hA => by simp at hA, fun i A b hA => by simp at hA⟩ hus).mono ?_
    rintro e w' ⟨u, μ', S', rfl, q1, q2, q3, q4, q5, q6, q7, q8, q9, _⟩
    refine ⟨u, rfl, ⟨q1, q2, q3, q4, fun k hk => q5 k hk (fun i A hA => by simp at hA)⟩, q9.stable ?_ (fun _ _ _ => rfl) (Nat.le_refl _) (fun id hid => by rw [noRef_free id r hr] at hid; cases hid)⟩
    rintro b ⟨hb, hb2⟩ _
    rcases q7 b hb with hb3 | hb3
    · rcases hb2 with hb2 | hb2
      · exact .inl (h3 hb2 b hb3)
      · exact .inr hb2
    · exact .inr hb3
  cases as with
  | none => exact core ds S hc hS (fun _ _ h => h) hus
  | some as =>
    obtain ⟨hco, hc⟩ := hc
    refine core as (fun b => S b ∨ (al = false ∧ ∃ (i : Nat) (A : Box), H[i]? = some A ∧ A.isArr = true ∧ blkOf (μ i) = some b)) hc ?_ ?_ ?_
    · rintro b (hb | ⟨_, i, A, hA, hl, hb⟩)
      · exact hS b hb
      · exact (hH.box i A hA).lt (by cases A <;> first | rfl | cases hl) b hb
    · rintro h b (hb | ⟨h0, _⟩)
      · exact hb
      · rw [h] at h0; cases h0
    · refine coA_rep hH (fun b hb => .inl hb) hS ?_ hco hus
      rcases hal with hal | hal
      · exact .inl (fun i A b hA hl hb => .inr ⟨hal, i, A, hA, hl, hb⟩)
      · exact .inr hal

/-- One operation ahead of the last part. -/
theorem nOp_sound {H : List Box} (hH : HeapRel S μ w H) (hS : ∀ b, S b → b < w.heap.size) {ρ : Operand → D} {ρ' : Operand → Value} (hρ : ∀ x, DRep S μ w (ρ x) (ρ' x)) {ov : Ov} {o : Oper} {d : D} {p : Prop} (hp : nOp P H ρ ov o.op = (d, p)) (hob : p) (hna : allT o = none)
    {R : Value → World → Prop} (hR : ∀ u w', Below w.heap.size w w' → DRep (fun b => S b ∨ w.heap.size ≤ b) μ w' d u → R u w') : Upd P R ((execOp ρ' o).run P w) := by
  unfold nOp at hp
  split at hp
  · rename_i ho
    unfold allT at hna
    rw [ho] at hna
    cases hna
  · rename_i t len parts ho
    obtain ⟨u, vs, E, h1, h2⟩ := nSlice_sound hH hS (uparts := parts.toList.map fun p => (p.1, ρ' p.2)) (by simp) (fun j x u hx hu => by
      simp only [List.getElem?_map, Array.getElem?_toList] at hx hu
      cases hj : parts[j]? with
      | none => rw [hj] at hx; cases hx
      | some q => rw [hj] at hx hu; simp at hx hu; subst hx hu; exact hρ q.2) hp hob
    have he : parts.map (fun (i, x) => (i, ρ' x)) = (parts.toList.map fun p => (p.1, ρ' p.2)).toArray := Array.ext' (by simp)
    rw [← he] at h1
    refine Upd.of (v := u) (w' := w.alloc (.cells vs E)) ?_ (hR _ _ ((Below.refl _ _).alloc (Nat.le_refl _) _) (h2.stable ?_ (fun _ _ _ => rfl) (Nat.le_refl _) (fun _ _ => rfl)))
    · simp only [execOp, ho, Sem.run_bind, h1, Result.andThen_ok, Sem.run_pure]
    · rintro b (hb | rfl) _
      · exact .inl hb
      · exact .inr (Nat.le_refl _)
  · rename_i f args ats ho
    unfold nCall at hp
    split at hp
    · rename_i g first cap as al r hf
      split at hp
      · rename_i hc
        simp only [Bool.and_eq_true, Bool.or_eq_true, Bool.not_eq_true'] at hc
        obtain ⟨⟨hgo, hr⟩, hal⟩ := hc
        simp only [Prod.mk.injEq] at hp
        obtain ⟨rfl, rfl⟩ := hp
        have hfv := hf ▸ hρ f
        generalize hfe : ρ' f = uf at hfv
        cases hfv with
        | fn _ _ _ us vs h1 h2 h3 h4 =>
          have hrun : (execOp ρ' o).run P w = .ok (.enter g (us ++ args.map ρ' ++ vs)) w := by
            simp [execOp, ho, resolve, hfe, Deferred.ofValue, invoke, run_callFunc' hgo]
          rw [hrun]
          have harg : RepsA S μ w (args.toList.map ρ) (args.map ρ') := by
            refine ⟨by simp, fun j y z hy hz => ?_⟩
            simp only [List.getElem?_map, Array.getElem?_toList, Array.getElem?_map] at hy hz
            cases hj : args[j]? with
            | none => rw [hj] at hy; cases hy
            | some x => rw [hj] at hy hz; simp at hy hz; subst hy hz; exact hρ x
          refine Upd.enter ((call_upd hH hS hob (RepsA.app (RepsA.app ⟨h1, h2⟩ harg) ⟨h3, h4⟩) hal hr).mono ?_)
          rintro e w' ⟨u, rfl, hb, hd⟩
          exact ⟨u, rfl, hR u w' hb hd⟩
      · cases hp; exact hob.elim
    · cases hp; exact hob.elim
  · have key : ∀ d0, (∃ q, opPure P H ρ o.op = (d0, q) ∧ q) → (∀ u, DRep S μ w d0 u → DRep S μ w d u) → Upd P R ((execOp ρ' o).run P w) := by
      rintro d0 ⟨q, hq, hq2⟩ hd
      obtain ⟨u, h1, h2⟩ := opPure_sound hH hρ hq hq2
      exact Upd.of h1 (hR u w (Below.refl _ _) ((hd u h2).stable (fun b hb _ => .inl hb) (fun _ _ _ => rfl) (Nat.le_refl _) (fun _ _ => rfl)))
    split at hp
    · simp only [Prod.mk.injEq] at hp
      obtain ⟨rfl, rfl⟩ := hp
      exact key _ ⟨_, rfl, hob.1⟩ (fun u hu => eqD_rep hob.2 hu)
    · exact key d ⟨p, hp, hob⟩ (fun _ h => h)

end

section
variable {C : Ctx} {st : St} {Q : Exit → St → Prop}

theorem skips_get {ops : List Oper} {ds : List D} : ∀ (l : List Oper) (k : Nat), (skips ops ds l)[k]? = (l[k]?).map (skipB ops ds)
  | [], k => by simp [skips]
  | o :: r, 0 => by simp [skips]
  | o :: r, k + 1 => by simp [skips, skips_get r k]

/-- THE RULE for a region that draws its order. -/
theorem Ev.draw {id : Nat} {ops : List Oper} (m : Nat) (sk : List Bool) (ovs : List (Nat × Ov)) (keep : List Nat) {st' : St} {p : Prop} (hm : C.P.follows .mixedOrders = true) (h : drawR C.P C.nt ops m sk ovs keep st = (st', p)) (hp : p) (hq : Q .normal st') :
    Ev C (.region id ops.toArray true) Q st := fun a w S μ hR => by
  unfold drawR at h
  generalize hds : drawDs C.P st.heap ops st.env ovs 0 (ops.take m) [] = dsp at h
  obtain ⟨ds, p1⟩ := dsp
  simp only at h
  cases hfa : foldA C.P (ops.take m) ds st.env st.heap with
  | none => rw [hfa] at h; exact fail_elim h hp
  | some eH =>
  obtain ⟨env1, H1⟩ := eH
  rw [hfa] at h
  simp only at h
  generalize hsq : seqOps C.P C.nt ops ovs m (ops.drop m) ⟨env1, H1⟩ = sp2 at h
  obtain ⟨st1, q1⟩ := sp2
  simp only at h
  split at h
  case isFalse => exact fail_elim h hp
  rename_i hcond
  simp only [Bool.and_eq_true, decide_eq_true_eq] at hcond
  obtain ⟨hok, hsk⟩ := hcond
  simp only [Prod.mk.injEq] at h
  obtain ⟨rfl, rfl⟩ := h
  obtain ⟨hp1, hq1⟩ := hp
  unfold drawOk at hok
  simp only [Bool.and_eq_true] at hok
  obtain ⟨⟨⟨hrok, htail⟩, hdst⟩, hndb⟩ := hok
  have hnd : NoDefer ops.toArray := fun i o ho => by
    rw [List.all_eq_true] at hndb
    have := hndb o (List.mem_of_getElem? (by simpa using ho))
    simpa using this
  have hmn : m ≤ ops.length := by have := (rTail_spec htail).1; simpa using this
  obtain ⟨rr, hrr, hrl⟩ := drawDs_prefix _ _ _ _ _ hds hp1
  have hdl : ds.length = m := by rw [hrr]; simp [hrl]; omega
  let sp : RSpec := { K := (drawSpec C.P ops m sk).K, ins := (drawSpec C.P ops m sk).ins, F := fun i Sx v wx => if sk.getD i false = true then v = undef else DRep (fun b => Sx b ∧ (S b ∨ w.heap.size ≤ b)) μ wx (ds.getD i .junk) v }
  have hrok' : rOk ops.toArray sp a = true := rOk_size hrok (by simp [hR.tsize]) rfl rfl
  have hspec := rOk_spec hrok'
  have hst : ∀ j, Stable (sp.F j) := by
    intro j S1 S2 v w1 w2 h1 hS hw hsz
    show (if sk.getD j false = true then v = undef else _)
    have h1' : (if sk.getD j false = true then v = undef else DRep (fun b => S1 b ∧ (S b ∨ w.heap.size ≤ b)) μ w1 (ds.getD j .junk) v) := h1
    split
    · rename_i hs; rw [if_pos hs] at h1'; exact h1'
    · rename_i hs
      rw [if_neg hs] at h1'
      exact h1'.stable (fun b hb hl => ⟨hS b hb.1 hl, hb.2⟩) (fun b hb hl => hw b hb.1 hl) hsz (fun _ _ => rfl)
  -- what is known of operation i
  have hAt : ∀ (i : Nat) (o : Oper), i < m → ops[i]? = some o → (sk.getD i false = skipB ops ds o) ∧ ∃ pre, pre.length = i ∧ (∃ r, ds = pre ++ r) ∧
      ((guardN ops ds o = some true ∧ ∃ q, nOp C.P st.heap (opndD ops st.env pre i o.op) (ovAt ovs i) o.op = (ds.getD i .junk, q) ∧ q) ∨ (guardN ops ds o = some false ∧ ds.getD i .junk = .tup [])) := by
    intro i o hi ho
    have hto : (ops.take m)[i]? = some o := by rw [List.getElem?_take, if_pos hi]; exact ho
    refine ⟨?_, ?_⟩
    · rw [← hsk]
      unfold List.getD
      rw [skips_get, hto]
      rfl
    · obtain ⟨pre, h1, ⟨r, h2⟩, h3⟩ := drawDs_at _ 0 [] ds p1 rfl hds hp1 i o hto
      rw [Nat.zero_add] at h1 h3
      refine ⟨pre, h1, ⟨r, h2⟩, ?_⟩
      have hg : guardN ops pre o = guardN ops ds o := by
        unfold guardN
        cases hgd : o.guard with
        | none => rfl
        | some q =>
          obtain ⟨g, want⟩ := q
          obtain ⟨hbf, _⟩ := hspec.guard i o g want (by simpa using ho) hgd
          have hlt : g < i := rReach_lt hspec.top 5 i g hbf
          have : ds.getD g .junk = pre.getD g .junk := by
            rw [h2]
            unfold List.getD
            rw [List.getElem?_append_left (by omega)]
          simp only [this]
      rw [hg] at h3
      exact h3
  -- the value of a guard
  have hguard : ∀ (g : Nat) (b : Bool) (og : Oper), g < m → ops[g]? = some og → ds.getD g .junk = .v (.bool b) → ∀ Sx v wx, sp.F g Sx v wx → v = .bool b := by
    intro g b og hg hog hd Sx v wx hF
    have hF' : (if sk.getD g false = true then v = undef else DRep (fun b => Sx b ∧ (S b ∨ w.heap.size ≤ b)) μ wx (ds.getD g .junk) v) := hF
    obtain ⟨hs, pre, _, _, hc⟩ := hAt g og hg hog
    have hns : ¬ sk.getD g false = true := by
      rw [hs]
      unfold skipB
      rcases hc with ⟨hc, _⟩ | ⟨hc, hc2⟩
      · rw [hc]; simp
      · rw [hd] at hc2; cases hc2
    rw [if_neg hns, hd] at hF'
    exact bool_inv hF'
  have hop : ∀ (i : Nat) (o : Oper), i < m → ops.toArray[i]? = some o → OpOk C.P ops.toArray sp a w i o := by
    intro i o hi ho
    have ho' : ops[i]? = some o := by simpa using ho
    obtain ⟨hs, pre, hpl, ⟨r, hpre⟩, hc⟩ := hAt i o hi ho'
    rcases hc with ⟨hg, q, hq, hqq⟩ | ⟨hg, hdt⟩
    · have hns : sk.getD i false = false := by rw [hs]; unfold skipB; rw [hg]; rfl
      have hgy : GuardYes sp o := by
        -- the guard says yes
        intro g want hgd Sx v wx hF
        unfold guardN at hg
        rw [hgd] at hg
        simp only at hg
        split at hg
        · split at hg
          · rename_i b hdb
            simp only [Option.some.injEq, beq_iff_eq] at hg
            obtain ⟨hbf, _⟩ := hspec.guard i o g want ho hgd
            have hlt : g < i := rReach_lt hspec.top 5 i g hbf
            have hgo : g < ops.length := by omega
            rw [hguard g b ops[g] (by omega) (List.getElem?_eq_getElem hgo) hdb Sx v wx hF, hg]
          · cases hg
          · cases hg
        · cases hg
      have hKe : sp.K i = match allT o with | some T => (match zeroC C.P T with | some z => .alloc T z | none => .grow) | none => .grow := by
        show (if sk.getD i false = true then RKind.skip else match (ops[i]?).bind allT with | some T => (match zeroC C.P T with | some z => .alloc T z | none => .grow) | none => .grow) = _
        rw [hns, ho']
        rfl
      cases hat : allT o with
      | some T =>
        rw [hat] at hKe
        have hoo : o.op = .alloc T := by
          unfold allT at hat
          split at hat
          · rename_i T' hT'
            cases hat
            exact hT'
          · cases hat
        rw [hoo] at hq
        unfold nOp at hq
        simp only at hq
        cases hz : zeroC C.P T with
        | none =>
          rw [hz] at hq
          simp only [fail1, Prod.mk.injEq] at hq
          rw [← hq.2] at hqq
          exact hqq.elim
        | some z =>
          simp only [hz] at hKe
          refine OpOk.alloc hKe hgy (fun ρ wx => ?_)
          obtain ⟨i0, e1, e2⟩ : ∃ i0 : TypeInfo, C.P.info? T = some i0 ∧ (i0.zero).map (·.cells) = some z := by
            unfold zeroC at hz
            cases hi : C.P.info? T with
            | none => simp [hi] at hz
            | some i0 => exact ⟨i0, rfl, by simpa [hi] using hz⟩
          cases hv0 : i0.zero with
          | none => simp [hv0] at e2
          | some v0 =>
            simp only [hv0, Option.map_some, Option.some.injEq] at e2
            subst e2
            have hzr : (zeroValue T).run C.P wx = .ok v0 wx := by simp [zeroValue, typeInfo, e1, hv0, Sem.run_bind]
            simp [execOp, hoo, Instr.alloc, Sem.run_bind, hzr, newVar, newRow, newObj, Sem.run]
      | none =>
      rw [hat] at hKe
      refine OpOk.grow hKe hgy ?_
      · intro ρ Sx wx hcon hbel hold hins
        have hSyS : ∀ b, (Sx b ∧ (S b ∨ w.heap.size ≤ b)) → b < w.heap.size → S b := fun b hb hl => hb.2.resolve_right (by omega)
        -- the footprint, within the heap
        let Sy : Nat → Prop := fun b => (Sx b ∧ (S b ∨ w.heap.size ≤ b)) ∧ b < wx.heap.size
        have hH : HeapRel Sy μ wx st.heap := hR.heap.mono (fun b hb hl => ⟨⟨hold b hl, .inl hb⟩, Nat.lt_of_lt_of_le hl hbel.size⟩) hbel (fun b hl hb => hSyS b hb.1 hl)
        have hSlt : ∀ b, Sy b → b < wx.heap.size := fun b hb => hb.2
        have hρ : ∀ x, DRep Sy μ wx (opndD ops st.env pre i o.op x) (ρ x) := by
          intro x
          cases x with
          | const v => rw [hcon.const]; exact DRep.ofVal _ _ _ v
          | func f => rw [hcon.func]; exact .fn _ _ _ #[] #[] rfl (fun j y u hy _ => by simp at hy) rfl (fun j y u hy _ => by simp at hy)
          | global g => exact .junk _
          | tmp t =>
            show DRep Sy μ wx (if (tmpsOf o.op).any (Nat.beq t) then (match lastW ops i t with | some k => pre.getD k .junk | none => lookE st.env t) else .junk) (ρ (.tmp t))
            by_cases hmem : (tmpsOf o.op).any (Nat.beq t) = true
            · rw [if_pos hmem]
              have hmem' : t ∈ tmpsOf o.op := by
                rw [List.any_eq_true] at hmem
                obtain ⟨s, h1, h2⟩ := hmem
                rw [Nat.beq_eq] at h2
                exact h2 ▸ h1
              have hget := insFacts_get hins t (lastW ops i t) (by
                show (t, lastW ops i t) ∈ (if Nat.blt i m then (match ops[i]? with | some o => insOf ops i o | none => []) else [])
                rw [if_pos (by simpa using hi), ho']
                exact List.mem_map.2 ⟨t, hmem', rfl⟩)
              cases hl : lastW ops i t with
              | none =>
                rw [hl] at hget
                simp only at hget ⊢
                rw [hget]
                exact (hR.eval (.tmp t)).stable (fun b hb hl => ⟨⟨hold b hl, .inl hb⟩, Nat.lt_of_lt_of_le hl hbel.size⟩) (fun b _ hl => hbel.block b hl) hbel.size (fun _ _ => rfl)
              | some k =>
                rw [hl] at hget
                simp only at hget ⊢
                have hki := lastW_lt hl
                have hdk : pre.getD k .junk = ds.getD k .junk := by
                  rw [hpre]
                  unfold List.getD
                  rw [List.getElem?_append_left (by omega)]
                have hF : (if sk.getD k false = true then ρ (.tmp t) = undef else DRep (fun b => Sx b ∧ (S b ∨ w.heap.size ≤ b)) μ wx (ds.getD k .junk) (ρ (.tmp t))) := hget
                rw [hdk]
                have hko : k < ops.length := by omega
                obtain ⟨hsk2, pre2, _, _, hc2⟩ := hAt k ops[k] (by omega) (List.getElem?_eq_getElem hko)
                split at hF
                · rename_i hskk
                  rw [hsk2] at hskk
                  rcases hc2 with ⟨hc2, _⟩ | ⟨_, hc3⟩
                  · unfold skipB at hskk; rw [hc2] at hskk; cases hskk
                  · rw [hc3, hF]
                    exact .tup [] #[] rfl (fun j y u hy _ => by simp at hy)
                · exact hF.stable (fun b hb hl => ⟨hb, hl⟩) (fun _ _ _ => rfl) (Nat.le_refl _) (fun _ _ => rfl)
            · rw [if_neg hmem]
              exact .junk _
        refine nOp_sound hH hSlt hρ hq hqq hat (fun u w' hb hd => ⟨hb, ?_⟩)
        show (if sk.getD i false = true then u = undef else DRep (fun b => (Sx b ∨ wx.heap.size ≤ b) ∧ (S b ∨ w.heap.size ≤ b)) μ w' (ds.getD i .junk) u)
        rw [if_neg (by rw [hns]; simp)]
        refine hd.stable ?_ (fun _ _ _ => rfl) (Nat.le_refl _) (fun _ _ => rfl)
        rintro b (hb2 | hb2) _
        · exact ⟨.inl hb2.1.1, hb2.1.2⟩
        · exact ⟨.inr hb2, .inr (Nat.le_trans hbel.size hb2)⟩
    · have hns : sk.getD i false = true := by rw [hs]; unfold skipB; rw [hg]; rfl
      have hK : sp.K i = .skip := by
        show (if sk.getD i false = true then RKind.skip else _) = .skip
        rw [if_pos hns]
      refine OpOk.skip hK ?_ (fun Sx wx => ?_)
      · unfold guardN at hg
        cases hgd : o.guard with
        | none => rw [hgd] at hg; cases hg
        | some qq =>
          obtain ⟨g, want⟩ := qq
          rw [hgd] at hg
          simp only at hg
          refine ⟨g, want, hgd, fun Sx v wx hF => ?_⟩
          obtain ⟨hbf, _⟩ := hspec.guard i o g want ho hgd
          have hlt : g < i := rReach_lt hspec.top 5 i g hbf
          have hgo : g < ops.length := by omega
          split at hg
          · split at hg
            · rename_i b hdb
              simp only [Option.some.injEq] at hg
              rw [hguard g b ops[g] (by omega) (List.getElem?_eq_getElem hgo) hdb Sx v wx hF]
              cases b <;> cases want <;> simp at hg ⊢
            · rename_i hdt2
              have hF' : (if sk.getD g false = true then v = undef else DRep (fun b => Sx b ∧ (S b ∨ w.heap.size ≤ b)) μ wx (ds.getD g .junk) v) := hF
              split at hF'
              · exact .inr hF'
              · rw [hdt2] at hF'
                obtain ⟨us, e, h1, _⟩ := tup_inv hF'
                refine .inr ?_
                rw [e]
                have : us = #[] := Array.eq_empty_of_size_eq_zero (by simpa using h1)
                rw [this]
                rfl
            · cases hg
          · cases hg
      · show (if sk.getD i false = true then undef = undef else _)
        rw [if_pos hns]
  refine wpIn_region_facts (rd := C.rd) sp hnd hm hrok' hst htail hop ?_
  intro env' Sf wf hbel hold hfacts hnew
  let S1 : Nat → Prop := fun b => S b ∨ (Sf b ∧ w.heap.size ≤ b ∧ b < wf.heap.size)
  have hR1 : Rel C S1 μ st a wf := hR.grow hbel.os hbel.tape hbel.output hbel.size hbel.block (fun b hb => .inl hb) (fun b hb => hb.imp (fun h => h) (fun h => h.2.1)) (fun b hb => by
    rcases hb with hb | hb
    · exact Nat.lt_of_lt_of_le (hR.slt b hb) hbel.size
    · exact hb.2.2)
  have hKn : ∀ k o, k < m → ops[k]? = some o → ∀ T, allT o = some T → guardN ops ds o = some true → ∃ z, zeroC C.P T = some z ∧ sp.K k = .alloc T z := by
    intro k o hk ho T hT hg
    obtain ⟨hsk2, pre2, _, _, hc2⟩ := hAt k o hk ho
    rcases hc2 with ⟨_, q, hq, hqq⟩ | ⟨hc2, _⟩
    · have hoo : o.op = .alloc T := by
        unfold allT at hT
        split at hT
        · rename_i T' hT'
          cases hT
          exact hT'
        · cases hT
      rw [hoo] at hq
      unfold nOp at hq
      simp only at hq
      cases hz : zeroC C.P T with
      | none =>
        rw [hz] at hq
        simp only [fail1, Prod.mk.injEq] at hq
        rw [← hq.2] at hqq
        exact hqq.elim
      | some z =>
        refine ⟨z, rfl, ?_⟩
        show (if sk.getD k false = true then RKind.skip else match (ops[k]?).bind allT with | some T => (match zeroC C.P T with | some z => .alloc T z | none => .grow) | none => .grow) = _
        rw [hsk2, ho]
        unfold skipB
        rw [hg]
        simp only [Option.bind_some, hT, hz]
        rfl
    · rw [hg] at hc2; cases hc2
  have hdsk : ∀ k d, ds[k]? = some d → ds.getD k .junk = d := by
    intro k d hd; unfold List.getD; rw [hd]; rfl
  have htk : ∀ (k : Nat) (o : Oper), (ops.take m)[k]? = some o → k < m ∧ ops[k]? = some o := by
    intro k o ho
    rw [List.getElem?_take] at ho
    split at ho
    · exact ⟨by assumption, ho⟩
    · cases ho
  have hnofill : ∀ j k, sp.K k ≠ .fill j := by
    intro j k h
    have hh : (if sk.getD k false = true then RKind.skip else match (ops[k]?).bind allT with | some T => (match zeroC C.P T with | some z => .alloc T z | none => .grow) | none => .grow) = .fill j := h
    split at hh
    · cases hh
    · split at hh
      · split at hh <;> cases hh
      · cases hh
  have hnewk : ∀ (k : Nat) (o : Oper) (d : D) (T : TypeId), (ops.take m)[k]? = some o → ds[k]? = some d → isNew o d = some T → k < m ∧ ∃ z, zeroC C.P T = some z ∧ sp.K k = .alloc T z := by
    intro k o d T ho hd hT
    obtain ⟨hk, ho'⟩ := htk k o ho
    obtain ⟨_, _, _, _, hc2⟩ := hAt k o hk ho'
    have hdj : d = .junk := by unfold isNew at hT; split at hT; · rfl
                               · cases hT
    have hT' : allT o = some T := by rw [hdj] at hT; exact hT
    rcases hc2 with ⟨hg, _⟩ | ⟨_, hc3⟩
    · exact ⟨hk, hKn k o hk ho' T hT' hg⟩
    · rw [hdsk k d hd, hdj] at hc3; cases hc3
  obtain ⟨μ2, hR2⟩ : ∃ μ2, Rel C S1 μ2 ⟨env1, H1⟩ (putAll (ops.take m) 0 env' a) wf := by
    refine foldA_rel (ops.take m) ds 0 st.env st.heap a μ hR1 hdst hfa (fun k o d ho hd hnn => ?_) (fun k o d T ho hd hnn => ?_) (fun k k' o o' d d' T T' b ho hd hnn ho' hd' hnn' he he' => ?_)
    · obtain ⟨hkm, hko⟩ := htk k o ho
      rw [Nat.zero_add]
      have hdd := hdsk k d hd
      obtain ⟨hsk2, pre2, _, _, hc2⟩ := hAt k o hkm hko
      by_cases hjk : ds.getD k .junk = .junk
      · rw [hdd] at hjk
        rw [hjk]
        exact .junk _
      have hal : (sp.K k).isAlloc = false ∧ (sp.K k).who k = k := by
        have : sp.K k = if sk.getD k false = true then RKind.skip else match (ops[k]?).bind allT with | some T => (match zeroC C.P T with | some z => .alloc T z | none => .grow) | none => .grow := rfl
        rw [this, hko]
        split
        · exact ⟨rfl, rfl⟩
        · rename_i hns
          cases hat : allT o with
          | none => simp only [Option.bind_some, hat]; exact ⟨rfl, rfl⟩
          | some T =>
            exfalso
            rcases hc2 with ⟨_, q, hq, hqq⟩ | ⟨hc2, _⟩
            · have hoo : o.op = .alloc T := by
                unfold allT at hat
                split at hat
                · rename_i T' hT'
                  cases hat
                  exact hT'
                · cases hat
              rw [hoo] at hq
              unfold nOp at hq
              simp only at hq
              split at hq
              · simp only [Prod.mk.injEq] at hq
                exact hjk hq.1.symm
              · simp only [fail1, Prod.mk.injEq] at hq
                rw [← hq.2] at hqq
                exact hqq
            · rw [hsk2] at hns
              unfold skipB at hns
              rw [hc2] at hns
              exact hns rfl
      have hF := hfacts k hkm hal.1
      rw [hal.2] at hF
      have hF' : (if sk.getD k false = true then env' k = undef else DRep (fun b => Sf b ∧ (S b ∨ w.heap.size ≤ b)) μ wf (ds.getD k .junk) (env' k)) := hF
      split at hF'
      · rename_i hskk
        rw [hsk2] at hskk
        rcases hc2 with ⟨hc2, _⟩ | ⟨_, hc3⟩
        · unfold skipB at hskk; rw [hc2] at hskk; cases hskk
        · rw [← hdd, hc3, hF']
          exact .tup [] #[] rfl (fun j y u hy _ => by simp at hy)
      · rw [hdd] at hF'
        refine hF'.stable ?_ (fun _ _ _ => rfl) (Nat.le_refl _) (fun _ _ => rfl)
        rintro b ⟨hb1, hb2⟩ hl
        rcases hb2 with hb2 | hb2
        · exact .inl hb2
        · exact .inr ⟨hb1, hb2, hl⟩
    · obtain ⟨hkm, z, hz, hK⟩ := hnewk k o d T ho hd hnn
      obtain ⟨b, e1, e2, e3, e4⟩ := hnew.priv k T z hkm hK (fun k' _ => hnofill k k')
      rw [Nat.zero_add]
      refine ⟨b, z, hz, e1, ?_, e3, Nat.le_trans hR.size e4, fun j A hA hl hbj => ?_⟩
      · rintro (hb | hb)
        · have := hR.slt b hb; omega
        · exact e2 hb.1
      · have := (hR.heap.box j A hA).lt hl b hbj
        omega
    · obtain ⟨hkm, z, hz, hK⟩ := hnewk k o d T ho hd hnn
      obtain ⟨hkm', z', hz', hK'⟩ := hnewk k' o' d' T' ho' hd' hnn'
      rw [Nat.zero_add] at he he'
      exact hnew.apart k k' T z T' z' b hkm hkm' hK hK' he he'
  have hl := seqOps_sound (Q := fun e a' w' => ∃ st' S' μ', Q e st' ∧ Rel C S' μ' st' a' w') (ops.drop m) m _ S1 μ2 _ wf q1 hR2 hsq hq1 (fun S' μ' a' w' hR' => ⟨_, S', μ', hq, hR'.keep keep⟩)
  have e := wpOpsIn_eq_wpListIn (F := fen C.rd) (n := 0) (P := C.P) (ops := ops.toArray) (Q := fun e a' w' => ∃ st' S' μ', Q e st' ∧ Rel C S' μ' st' a' w') (ops.drop m) m (fun j => by simp)
  rw [List.length_drop] at e
  have hsz : ops.toArray.size = ops.length := by simp
  rw [hsz, e]
  simpa using hl

end
end Go.Proofs.Ytjmfaebimgnblaa
