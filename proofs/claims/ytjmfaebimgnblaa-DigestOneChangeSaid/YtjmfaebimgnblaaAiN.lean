/-
  Regions that draw their order, on pure data: up to a last part the operations only read, or make memory. Generic: over any program.
-/
import Derived.Test.YtjmfaebimgnblaaAiM
namespace Go.Proofs.Ytjmfaebimgnblaa
open Go.RowKit
set_option linter.unusedVariables false
set_option linter.unusedSimpArgs false

/-- The last operation ahead of i that writes slot t. -/
def lastW : List Oper → Nat → Nat → Option Nat
  | _, 0, _ => none
  | ops, i + 1, t => match (ops[i]?).bind (·.dst) with
    | some s => if Nat.beq s t then some i else lastW ops i t
    | none => lastW ops i t

/-- The slots that an operation looks at. -/
def tmpsOf (op : Op) : List Tmp := op.operands.toList.filterMap fun | .tmp t => some t | _ => none

def opndD (ops : List Oper) (env0 : List (Nat × D)) (ds : List D) (i : Nat) (op : Op) : Operand → D
  | .tmp t => if (tmpsOf op).any (Nat.beq t) then match lastW ops i t with
      | some k => ds.getD k .junk
      | none => lookE env0 t
    else .junk
  | .const v => D.ofVal v
  | .func f => .fn (.func f) [] []
  | .global _ => .junk

def guardN (ops : List Oper) (ds : List D) (o : Oper) : Option Bool :=
  match o.guard with
  | none => some true
  | some (g, want) => match (ops[g]?).bind (·.dst) with
    | some _ => match ds.getD g .junk with
      | .v (.bool b) => some (b == want)
      | .tup [] => some false
      | _ => none
    | none => none

/-- A slice literal that nobody will write. -/
def nSlice (P : Program) (H : List Box) (ov : Ov) (t : TypeId) (len : Nat) (parts : List (Nat × D)) : R1 :=
  match P.underlying t with
  | some (.slice E) => match zeroD P E with
    | some z => if known P E && Nat.beq z.length (szOf P E) && Nat.ble 1 (szOf P E) && Nat.ble (len * szOf P E) 4096 then
        match fillD H (fun i => some (i * szOf P E, szOf P E)) (List.replicate len z).flatten parts with
        | some cells => match ov with
          | .box E' sz' enc' d' l' => if Nat.beq E E' && Nat.beq (szOf P E) sz' then (.v (.sl (szOf P E) enc' d' l'), eqRows (chunk (szOf P E) len cells) (l'.map enc')) else fail1
          | _ => fail1
        | none => fail1
      else fail1
    | none => fail1
  | _ => fail1

def nCall (P : Program) (H : List Box) (ov : Ov) (f : D) (ds : List D) : R1 :=
  match f, ov with
  | .fn (.func g) first cap, .call as al r => if isGoF P g && noRef r && (!al || noOwn (first ++ ds ++ cap)) then (r, callOb P g H (first ++ ds ++ cap) as al r) else fail1
  | _, _ => fail1

/-- The cells of a type's zero value. -/
def zeroC (P : Program) (T : TypeId) : Option (Array Value) := ((P.info? T).bind (·.zero)).map (·.cells)

/-- The type of the variable that an operation makes. -/
def allT (o : Oper) : Option TypeId := match o.op with | .alloc T => some T | _ => none
def isNew (o : Oper) : D → Option TypeId | .junk => allT o | _ => none

def nOp (P : Program) (H : List Box) (ρ : Operand → D) (ov : Ov) (op : Op) : R1 :=
  match op with
  | .alloc T => match zeroC P T with | some _ => (.junk, True) | none => fail1
  | .buildSlice t len parts => nSlice P H ov t len (parts.toList.map fun p => (p.1, ρ p.2))
  | .call ⟨.value f, args, _⟩ => nCall P H ov (ρ f) (args.toList.map ρ)
  | op => match ov with
    | .val d' => (d', (opPure P H ρ op).2 ∧ eqD (opPure P H ρ op).1 d')
    | _ => opPure P H ρ op

def skipB (ops : List Oper) (ds : List D) (o : Oper) : Bool := match guardN ops ds o with | some b => !b | none => false

/-- The values of the operations ahead of the last part. -/
def drawDs (P : Program) (H : List Box) (ops : List Oper) (env0 : List (Nat × D)) (ovs : List (Nat × Ov)) : Nat → List Oper → List D → List D × Prop
  | _, [], ds => (ds, True)
  | i, o :: r, ds => match guardN ops ds o with
    | some true => match nOp P H (opndD ops env0 ds i o.op) (ovAt ovs i) o.op with
      | (d, p) => match drawDs P H ops env0 ovs (i + 1) r (ds ++ [d]) with
        | (ds', q) => (ds', p ∧ q)
    | some false => drawDs P H ops env0 ovs (i + 1) r (ds ++ [.tup []])
    | none => (ds, False)

/-- The slots and the variables that the operations have made, when all have run. -/
def foldA (P : Program) : List Oper → List D → List (Nat × D) → List Box → Option (List (Nat × D) × List Box)
  | [], _, env, H => some (env, H)
  | _ :: _, [], _, _ => none
  | o :: os, d :: ds, env, H => match isNew o d with
    | some T => match zeroD P T with
      | some z => if freeE H.length env && freeH H.length H && D.freeL H.length z && D.freeL H.length ds then foldA P os ds (putO env o.dst (.ptr H.length 0 0 0)) (H ++ [.var T z]) else none
      | none => none
    | none => foldA P os ds (putO env o.dst d) H

def insOf (ops : List Oper) (i : Nat) (o : Oper) : List (Tmp × Option Nat) :=
  (tmpsOf o.op).map fun t => (t, lastW ops i t)

def dstsOk (nt : Nat) : List Oper → Bool
  | [] => true
  | o :: r => (match o.dst with | some t => Nat.blt t nt | none => false) && dstsOk nt r

/-- The table's kinds and looks, for skips as told. -/
def drawSpec (P : Program) (ops : List Oper) (m : Nat) (sk : List Bool) : RSpec := { K := fun i => if sk.getD i false then .skip else match (ops[i]?).bind allT with | some T => (match zeroC P T with | some z => .alloc T z | none => .grow) | none => .grow, F := fun _ _ _ _ => True, ins := fun i => if Nat.blt i m then (match ops[i]? with | some o => insOf ops i o | none => []) else [] }

def skips (ops : List Oper) (ds : List D) : List Oper → List Bool
  | [] => []
  | o :: r => skipB ops ds o :: skips ops ds r

def drawOk (P : Program) (nt : Nat) (ops : List Oper) (m : Nat) (sk : List Bool) : Bool :=
  rOk ops.toArray (drawSpec P ops m sk) ⟨Array.replicate nt undef, []⟩ && rTail ops.toArray m && dstsOk nt (ops.take m) && ops.all (fun o => !isDefer o)

/-- What a region that draws makes of a state. -/
def drawR (P : Program) (nt : Nat) (ops : List Oper) (m : Nat) (sk : List Bool) (ovs : List (Nat × Ov)) (keep : List Nat) (st : St) : R2 :=
  match drawDs P st.heap ops st.env ovs 0 (ops.take m) [] with
  | (ds, p) => match foldA P (ops.take m) ds st.env st.heap with
   | some (env1, H1) => match seqOps P nt ops ovs m (ops.drop m) ⟨env1, H1⟩ with
    | (st1, q) => if drawOk P nt ops m sk && decide (skips ops ds (ops.take m) = sk) then (⟨keepE keep st1.env, st1.heap⟩, p ∧ q) else fail2 st
   | none => fail2 st

section
variable {P : Program} {S : Nat → Prop} {μ : Nat → Value} {w : World}

theorem rOk_size {ops : Array Oper} {sp sp' : RSpec} {base base' : Act} (h : rOk ops sp base = true) (hs : base'.tmps.size = base.tmps.size) (hk : sp'.K = sp.K) (hi : sp'.ins = sp.ins) : rOk ops sp' base' = true := by
  have e1 : rIn ops sp' = rIn ops sp := by
    funext i p
    unfold rIn
    rw [hk]
  have : ∀ i, rOp ops sp' base' i = rOp ops sp base i := by
    intro i
    unfold rOp
    rw [hs, hk, hi, e1]
  unfold rOk at h ⊢
  rw [show rOp ops sp' base' = rOp ops sp base from funext this]
  exact h

theorem drawDs_prefix {H : List Box} {ops : List Oper} {env0 : List (Nat × D)} {ovs : List (Nat × Ov)} : ∀ (l : List Oper) (i : Nat) (ds ds' : List D) (p : Prop), drawDs P H ops env0 ovs i l ds = (ds', p) → p → ∃ r, ds' = ds ++ r ∧ r.length = l.length := by
  intro l
  induction l with
  | nil =>
    intro i ds ds' p h _
    simp only [drawDs, Prod.mk.injEq] at h
    exact ⟨[], by simp [h.1], rfl⟩
  | cons o l ih =>
    intro i ds ds' p h hp
    unfold drawDs at h
    split at h
    · generalize nOp P H (opndD ops env0 ds i o.op) (ovAt ovs i) o.op = q at h
      obtain ⟨d, q⟩ := q
      simp only at h
      generalize hq2 : drawDs P H ops env0 ovs (i + 1) l (ds ++ [d]) = q2 at h
      obtain ⟨ds2, q2⟩ := q2
      simp only [Prod.mk.injEq] at h
      obtain ⟨rfl, rfl⟩ := h
      obtain ⟨r, h1, h2⟩ := ih _ _ _ _ hq2 hp.2
      exact ⟨d :: r, by rw [h1]; simp, by simp [h2]⟩
    · obtain ⟨r, h1, h2⟩ := ih _ _ _ _ h hp
      exact ⟨.tup [] :: r, by rw [h1]; simp, by simp [h2]⟩
    · simp only [Prod.mk.injEq] at h
      rw [← h.2] at hp
      exact hp.elim

/-- What is known of each operation. -/
theorem drawDs_at {H : List Box} {ops : List Oper} {env0 : List (Nat × D)} {ovs : List (Nat × Ov)} : ∀ (l : List Oper) (i : Nat) (ds ds' : List D) (p : Prop), i = ds.length → drawDs P H ops env0 ovs i l ds = (ds', p) → p →
    ∀ (k : Nat) (o : Oper), l[k]? = some o → ∃ pre, pre.length = i + k ∧ (∃ r, ds' = pre ++ r) ∧
      ((guardN ops pre o = some true ∧ ∃ q, nOp P H (opndD ops env0 pre (i + k) o.op) (ovAt ovs (i + k)) o.op = (ds'.getD (i + k) .junk, q) ∧ q) ∨ (guardN ops pre o = some false ∧ ds'.getD (i + k) .junk = .tup [])) := by
  intro l
  induction l with
  | nil => intro i ds ds' p _ _ _ k o hk; simp at hk
  | cons o l ih =>
    intro i ds ds' p hi h hp k o' hk
    unfold drawDs at h
    split at h
    · rename_i hg
      generalize hq : nOp P H (opndD ops env0 ds i o.op) (ovAt ovs i) o.op = q at h
      obtain ⟨d, q⟩ := q
      simp only at h
      generalize hq2 : drawDs P H ops env0 ovs (i + 1) l (ds ++ [d]) = q2 at h
      obtain ⟨ds2, q2⟩ := q2
      simp only [Prod.mk.injEq] at h
      obtain ⟨rfl, rfl⟩ := h
      obtain ⟨r, h1, h2⟩ := drawDs_prefix _ _ _ _ _ hq2 hp.2
      cases k with
      | zero =>
        simp at hk
        subst hk
        refine ⟨ds, by omega, ⟨d :: r, by rw [h1]; simp⟩, .inl ⟨hg, q, ?_, hp.1⟩⟩
        have : ds2.getD (i + 0) .junk = d := by rw [h1, hi]; simp [List.getD]
        rw [this]
        exact hq
      | succ k =>
        have := ih (i + 1) (ds ++ [d]) ds2 q2 (by simp [hi]) hq2 hp.2 k o' (by simpa using hk)
        rwa [show i + 1 + k = i + (k + 1) from by omega] at this
    · rename_i hg
      obtain ⟨r, h1, h2⟩ := drawDs_prefix _ _ _ _ _ h hp
      cases k with
      | zero =>
        simp at hk
        subst hk
        refine ⟨ds, by omega, ⟨.tup [] :: r, by rw [h1]; simp⟩, .inr ⟨hg, ?_⟩⟩
        rw [h1, hi]
        simp [List.getD]
      | succ k =>
        have := ih (i + 1) (ds ++ [.tup []]) ds' p (by simp [hi]) h hp k o' (by simpa using hk)
        rwa [show i + 1 + k = i + (k + 1) from by omega] at this
    · simp only [Prod.mk.injEq] at h
      rw [← h.2] at hp
      exact hp.elim

theorem lastW_lt {ops : List Oper} {t k : Nat} : ∀ {i : Nat}, lastW ops i t = some k → k < i
  | 0, h => by cases h
  | i + 1, h => by
    unfold lastW at h
    split at h
    · split at h
      · cases h; omega
      · have := lastW_lt h; omega
    · have := lastW_lt h; omega

/-- A variable that was made a while ago becomes a box. -/
theorem Rel.addVar {C : Ctx} {st : St} {a : Act} {T : TypeId} {cs : List D} {vs : Array Value} {b : Nat} (h : Rel C S μ st a w) (hb : w.heap[b]? = some (.cells vs T)) (hr : RepsA S μ w cs vs) (hS : ¬ S b) (hW : C.W.heap.size ≤ b)
    (hap : ∀ i A, st.heap[i]? = some A → A.live = true → blkOf (μ i) ≠ some b) (fE : freeE st.heap.length st.env = true) (fH : freeH st.heap.length st.heap = true) (fz : D.freeL st.heap.length cs = true) :
    Rel C S (updM μ st.heap.length (.pointer (some ⟨b, 0, none⟩))) ⟨st.env, st.heap ++ [.var T cs]⟩ a w := by
  have hμd : ∀ d : D, D.free st.heap.length d = true → ∀ i, d.free i = false → updM μ st.heap.length (.pointer (some ⟨b, 0, none⟩)) i = μ i := by
    intro d hd i hi
    by_cases e : i = st.heap.length
    · rw [e, hd] at hi; cases hi
    · exact updM_other _ _ e
  have hget : ∀ (i : Nat) (A : Box), (st.heap ++ [.var T cs])[i]? = some A → (i ≠ st.heap.length ∧ st.heap[i]? = some A) ∨ (i = st.heap.length ∧ A = .var T cs) := by
    intro i A hA
    rcases Nat.lt_trichotomy i st.heap.length with hi | hi | hi
    · rw [List.getElem?_append_left hi] at hA
      exact .inl ⟨by omega, hA⟩
    · subst hi
      simp at hA
      exact .inr ⟨rfl, hA.symm⟩
    · rw [List.getElem?_eq_none (by simp; omega)] at hA
      cases hA
  refine ⟨h.os, h.tape, h.output, h.size, h.old, h.mono, h.new, h.slt, ?_, ⟨?_, ?_, ?_⟩, ?_, ?_, h.tsize⟩
  · intro t d hm
    obtain ⟨q1, q2⟩ := h.env t d hm
    exact ⟨q1, q2.stable (fun _ h _ => h) (fun _ _ _ => rfl) (Nat.le_refl _) (hμd d (freeE_mem fE hm))⟩
  · intro i A hA
    rcases hget i A hA with ⟨hi, hA⟩ | ⟨rfl, rfl⟩
    · rw [updM_other _ _ hi]
      cases hl : A.live
      · cases A <;> first | trivial | cases hl
      · refine (h.heap.box i A hA).stable (fun _ h _ => h) (fun b hb _ => rfl) (Nat.le_refl _) (fun j hj => ?_) (fun _ _ => rfl)
        by_cases e : j = st.heap.length
        · rw [e, freeH_get fH hA] at hj; cases hj
        · exact updM_other _ _ e
    · rw [updM_same]
      exact ⟨b, vs, rfl, hb, hr.1, fun j y x hy hx => (hr.2 j y x hy hx).stable (fun _ h _ => h) (fun _ _ _ => rfl) (Nat.le_refl _) (hμd y (D.freeL_get fz hy))⟩
  · intro i j A A' c hA hA' la la' hc hc'
    rcases hget i A hA with ⟨hi, hA⟩ | ⟨rfl, rfl⟩ <;> rcases hget j A' hA' with ⟨hj, hA'⟩ | ⟨rfl, rfl⟩
    · rw [updM_other _ _ hi] at hc
      rw [updM_other _ _ hj] at hc'
      exact h.heap.apart i j A A' c hA hA' la la' hc hc'
    · rw [updM_other _ _ hi] at hc
      rw [updM_same] at hc'
      simp only [blkOf, Option.some.injEq] at hc'
      exact (hap i A hA la (hc' ▸ hc)).elim
    · rw [updM_other _ _ hj] at hc'
      rw [updM_same] at hc
      simp only [blkOf, Option.some.injEq] at hc
      exact (hap j A' hA' la' (hc ▸ hc')).elim
    · rfl
  · intro i A c hA la hc hSc
    rcases hget i A hA with ⟨hi, hA⟩ | ⟨rfl, rfl⟩
    · rw [updM_other _ _ hi] at hc
      exact h.heap.notS i A c hA la hc hSc
    · rw [updM_same] at hc
      simp only [blkOf, Option.some.injEq] at hc
      exact hS (hc ▸ hSc)
  · intro i A c hA la hc
    rcases hget i A hA with ⟨hi, hA⟩ | ⟨rfl, rfl⟩
    · rw [updM_other _ _ hi] at hc
      exact h.may i A c hA la hc
    · rw [updM_same] at hc
      simp only [blkOf, Option.some.injEq] at hc
      exact hc ▸ hW
  · obtain ⟨mk, d1, d2, d3⟩ := h.defers
    refine ⟨mk, d1, d2, fun c hc => ?_⟩
    obtain ⟨q1, q2, q3, q4⟩ := d3 c hc
    refine ⟨q1, q2, q3, fun i A hA hl hbi => ?_⟩
    rcases hget i A hA with ⟨hi, hA⟩ | ⟨rfl, rfl⟩
    · rw [updM_other _ _ hi] at hbi
      exact q4 i A hA hl hbi
    · rw [updM_same] at hbi
      simp only [blkOf, Option.some.injEq] at hbi
      rw [← hbi, hb] at q1
      cases q1

theorem foldA_rel {C : Ctx} {S1 : Nat → Prop} {wf : World} {env' : Nat → Value} {env2 : List (Nat × D)} {H2 : List Box} : ∀ (l : List Oper) (ds : List D) (i : Nat) (env : List (Nat × D)) (H : List Box) (a : Act) (μ : Nat → Value), Rel C S1 μ ⟨env, H⟩ a wf → dstsOk C.nt l = true →
    foldA C.P l ds env H = some (env2, H2) →
    (∀ (k : Nat) (o : Oper) (d : D), l[k]? = some o → ds[k]? = some d → isNew o d = none → DRep S1 μ wf d (env' (i + k))) →
    (∀ (k : Nat) (o : Oper) (d : D) (T : TypeId), l[k]? = some o → ds[k]? = some d → isNew o d = some T → ∃ b z, zeroC C.P T = some z ∧ env' (i + k) = .pointer (some ⟨b, 0, none⟩) ∧ ¬ S1 b ∧ wf.heap[b]? = some (.cells z T) ∧ C.W.heap.size ≤ b ∧ (∀ (j : Nat) (A : Box), H[j]? = some A → A.live = true → blkOf (μ j) ≠ some b)) →
    (∀ (k k' : Nat) (o o' : Oper) (d d' : D) (T T' : TypeId) (b : Nat), l[k]? = some o → ds[k]? = some d → isNew o d = some T → l[k']? = some o' → ds[k']? = some d' → isNew o' d' = some T' → env' (i + k) = .pointer (some ⟨b, 0, none⟩) → env' (i + k') = .pointer (some ⟨b, 0, none⟩) → k = k') →
    ∃ μ', Rel C S1 μ' ⟨env2, H2⟩ (putAll l i env' a) wf
  | [], ds, i, env, H, a, μ, h, _, hf, _, _, _ => by
    simp only [foldA, Option.some.injEq, Prod.mk.injEq] at hf
    obtain ⟨rfl, rfl⟩ := hf
    exact ⟨μ, h⟩
  | o :: l, [], i, env, H, a, μ, h, _, hf, _, _, _ => by simp [foldA] at hf
  | o :: l, d :: ds, i, env, H, a, μ, h, hd, hf, hv, hn, hap => by
    simp only [dstsOk, Bool.and_eq_true] at hd
    obtain ⟨h1, h2⟩ := hd
    have sh : ∀ k, i + (k + 1) = i + 1 + k := by omega
    cases ho : o.dst with
    | none => rw [ho] at h1; cases h1
    | some t =>
      rw [ho] at h1
      simp only [Nat.blt_eq] at h1
      unfold foldA at hf
      cases hnw : isNew o d with
      | none =>
        rw [hnw] at hf
        simp only at hf
        have h0 := hv 0 o d rfl rfl hnw
        rw [Nat.add_zero] at h0
        rw [ho] at hf
        refine (foldA_rel l ds (i + 1) _ _ (a.put o.dst (env' i)) μ (by rw [ho]; exact h.put h1 h0) h2 hf (fun k o d q1 q2 q3 => by have := hv (k + 1) o d (by simpa using q1) (by simpa using q2) q3; rwa [sh] at this)
          (fun k o d T q1 q2 q3 => by have := hn (k + 1) o d T (by simpa using q1) (by simpa using q2) q3; rwa [sh] at this)
          (fun k k' o o' d d' T T' b q1 q2 q3 q4 q5 q6 q7 q8 => by have := hap (k + 1) (k' + 1) o o' d d' T T' b (by simpa using q1) (by simpa using q2) q3 (by simpa using q4) (by simpa using q5) q6 (by rw [sh]; exact q7) (by rw [sh]; exact q8); omega))
      | some T =>
        rw [hnw] at hf
        simp only at hf
        obtain ⟨b, z, hz, he, hS, hb, hW, hA⟩ := hn 0 o d T rfl rfl hnw
        rw [Nat.add_zero] at he
        split at hf
        · rename_i zd hzd
          split at hf
          · rename_i hc
            simp only [Bool.and_eq_true] at hc
            obtain ⟨⟨⟨c1, c2⟩, c3⟩, c4⟩ := hc
            obtain ⟨v, _, hrz⟩ := zeroD_sound (S := S1) (μ := μ) (w := wf) hzd
            have hrz2 : RepsA S1 μ wf zd z := by
              obtain ⟨i0, v0, e1, e2, e3, _, _⟩ := info_of hzd
              have : z = v0.cells := by simpa [zeroC, e1, e2] using hz.symm
              rw [this, e3]
              refine ⟨by simp, fun j y u hy hu => ?_⟩
              simp only [List.getElem?_map, Array.getElem?_toList, hu, Option.map_some, Option.some.injEq] at hy
              subst hy
              exact DRep.ofVal1 S1 μ wf u
            have hR := h.addVar hb hrz2 hS hW hA c1 c2 c3
            have hp : DRep S1 (updM μ H.length (.pointer (some ⟨b, 0, none⟩))) wf (.ptr H.length 0 0 0) (env' i) := by
              rw [he]
              have := DRep.ptr (S := S1) (μ := updM μ H.length (.pointer (some ⟨b, 0, none⟩))) (w := wf) H.length 0 0 0 b (by rw [updM_same]; rfl)
              simpa using this
            rw [ho] at hf
            refine (foldA_rel l ds (i + 1) _ _ (a.put o.dst (env' i)) _ (by rw [ho]; exact hR.put h1 hp) h2 hf (fun k o d q1 q2 q3 => ?_)
              (fun k o' d' T' q1 q2 q3 => ?_)
              (fun k k' o o' d d' T T' b q1 q2 q3 q4 q5 q6 q7 q8 => by have := hap (k + 1) (k' + 1) o o' d d' T T' b (by simpa using q1) (by simpa using q2) q3 (by simpa using q4) (by simpa using q5) q6 (by rw [sh]; exact q7) (by rw [sh]; exact q8); omega))
            · have := hv (k + 1) o d (by simpa using q1) (by simpa using q2) q3
              rw [sh] at this
              refine this.stable (fun _ h _ => h) (fun _ _ _ => rfl) (Nat.le_refl _) (fun j hj => ?_)
              by_cases e : j = H.length
              · rw [e, D.freeL_get c4 q2] at hj; cases hj
              · exact updM_other _ _ e
            · obtain ⟨b', z', g1, g2, g3, g4, g5, g6⟩ := hn (k + 1) o' d' T' (by simpa using q1) (by simpa using q2) q3
              rw [sh] at g2
              refine ⟨b', z', g1, g2, g3, g4, g5, fun j A hA hl hbj => ?_⟩
              rcases Nat.lt_trichotomy j H.length with hj | hj | hj
              · rw [List.getElem?_append_left hj] at hA
                rw [updM_other _ _ (show j ≠ H.length by omega)] at hbj
                exact g6 j A hA hl hbj
              · rw [hj, updM_same] at hbj
                simp only [blkOf, Option.some.injEq] at hbj
                have := hap 0 (k + 1) o o' d d' T T' b rfl rfl hnw (by simpa using q1) (by simpa using q2) q3 (by rw [Nat.add_zero]; exact he) (by rw [sh, g2, hbj])
                omega
              · rw [List.getElem?_eq_none (by simp; omega)] at hA
                cases hA
          · cases hf
        · cases hf

theorem insFacts_get {sp : RSpec} {base : Act} {ρ : Operand → Value} {S : Nat → Prop} {w : World} : ∀ {l : List (Tmp × Option Nat)}, InsFacts sp base ρ S w l → ∀ (t : Tmp) (k : Option Nat), (t, k) ∈ l →
    match k with | none => ρ (.tmp t) = base.tmps.getD t undef | some k => sp.F k S (ρ (.tmp t)) w
  | [], _, t, k, hm => by cases hm
  | (s, none) :: r, h, t, k, hm => by
    rcases List.mem_cons.1 hm with hm | hm
    · cases hm; exact h.1
    · exact insFacts_get h.2 t k hm
  | (s, some j) :: r, h, t, k, hm => by
    rcases List.mem_cons.1 hm with hm | hm
    · cases hm; exact h.1
    · exact insFacts_get h.2 t k hm

end
end Go.Proofs.Ytjmfaebimgnblaa
