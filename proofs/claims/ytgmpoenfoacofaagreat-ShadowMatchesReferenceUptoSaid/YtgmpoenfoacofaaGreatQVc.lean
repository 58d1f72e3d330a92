/-
  What is owed of a function's code, computed: one condition for all its ways. Generic: over any program.
-/
import Derived.Test.YtgmpoenfoacofaaGreatQDr
import Derived.LoopNIn
namespace Go.Proofs.YtgmpoenfoacofaaGreat
open Go.RowKit
set_option linter.unusedVariables false
set_option linter.unusedSimpArgs false
structure Lp (σ : Type) : Type 1 where
 make ::
 keep : List Nat
 n : Nat
 all : (σ → Prop) → Prop
 hall : ∀ P, all P → ∀ s, P s
 mk : σ → St
 inv : σ → Prop
 m : σ → Nat
abbrev f6 {α : Type} (keep : List Nat) (n : Nat) (mk : α → St) (inv : α → Prop) (m : α → Nat) : Lp α := ⟨keep, n, fun P => ∀ a, P a, fun _ h => h, mk, inv, m⟩
abbrev uN {α β : Type} (keep : List Nat) (n : Nat) (mk : α → β → St) (inv : α → β → Prop) (m : α → β → Nat) : Lp (α × β) :=
 ⟨keep, n, fun P => ∀ a b, P (a, b), fun _ h ⟨a, b⟩ => h a b, fun | (a, b) => mk a b, fun | (a, b) => inv a b, fun | (a, b) => m a b⟩
abbrev Jo {α β γ : Type} (keep : List Nat) (n : Nat) (mk : α → β → γ → St) (inv : α → β → γ → Prop) (m : α → β → γ → Nat) : Lp (α × β × γ) :=
 ⟨keep, n, fun P => ∀ a b c, P (a, b, c), fun _ h ⟨a, b, c⟩ => h a b c, fun | (a, b, c) => mk a b c, fun | (a, b, c) => inv a b c, fun | (a, b, c) => m a b c⟩
abbrev LW {α β γ δ : Type} (keep : List Nat) (n : Nat) (mk : α → β → γ → δ → St) (inv : α → β → γ → δ → Prop) (m : α → β → γ → δ → Nat) : Lp (α × β × γ × δ) :=
 ⟨keep, n, fun P => ∀ a b c d, P (a, b, c, d), fun _ h ⟨a, b, c, d⟩ => h a b c d, fun | (a, b, c, d) => mk a b c d, fun | (a, b, c, d) => inv a b c d, fun | (a, b, c, d) => m a b c d⟩
abbrev L4 {α β γ δ ε : Type} (keep : List Nat) (n : Nat) (mk : α → β → γ → δ → ε → St) (inv : α → β → γ → δ → ε → Prop) (m : α → β → γ → δ → ε → Nat) : Lp (α × β × γ × δ × ε) :=
 ⟨keep, n, fun P => ∀ a b c d e, P (a, b, c, d, e), fun _ h ⟨a, b, c, d, e⟩ => h a b c d e, fun | (a, b, c, d, e) => mk a b c d e, fun | (a, b, c, d, e) => inv a b c d e, fun | (a, b, c, d, e) => m a b c d e⟩
def Lp.ag {σ : Type} (L : Lp σ) (s : σ) (st : St) : Prop := ∃ s', st = L.mk s' ∧ L.inv s' ∧ L.m s' < L.m s
def Lp.at {σ : Type} (L : Lp σ) (st : St) : Prop := ∃ s', st = L.mk s' ∧ L.inv s'
inductive bE : Type 1
 | e
 | w (id : Nat) (o : List (Nat × Ov)) (h : bE)
 | q (id : Nat) (keep : List Nat) (n : Nat) (h : bE)
 | f (id b : Nat) (h : bE)
 | g (id i j E sz : Nat) {α : Type} (enc : α → List V) (d : α) (h : bE)
 | gs (id t E sz : Nat) {α : Type} (enc : α → List V) (d : α) (h : bE)
 | mv (id j i : Nat) (h : bE)
 | s (id : Nat) (P : Prop) (x y : bE)
 | y (id : Nat) (o : List (Nat × Ov)) (tab : zJ) (h : bE)
 | c (t : Nat) (P : Prop) [i : Decidable P] (x y : bE)
 | n (t : Nat) (P : Prop) [i : Decidable P] (x y : bE)
 | b (t : Nat) (x y : bE)
 | t (t : Nat) (x : bE)
 | u (t : Nat) (x : bE)
 | l {σ : Type} (L : Lp σ) (s0 : σ) (h : σ → bE)
 | r (n : Nat) (h : bE)
 | k (id : Nat) {σ : Type} (L : Lp σ) (x : bE) (h : σ → bE)
def Jp (o : Oper) : Bool := match o.op with
 | .store _ _ _ => true
 | .call ⟨.builtin .append, _, _⟩ => true
 | .call ⟨.builtin .copy, _, _⟩ => true
 | _ => false
def Jq : Ov → Bool
 | .inl _ _ _ => true
 | .inls _ => true
 | _ => false
def Jr : Ov → Bool
 | .app _ _ _ _ _ _ => true
 | _ => false
def Js : Ov → Bool
 | .val .junk => true
 | _ => false
def A3 (ovs : List (Nat × Ov)) : List Nat → Nat → List Oper → Nat
 | _, _, [] => 0
 | rd, i, o :: r => if (Jp o && !(Jr (jC ovs i) || Js (jC ovs i))) || Jq (jC ovs i) || (match o.dst with | some t => rd.any (fun s => Nat.beq t s) | none => false) then 0 else A3 ovs (qf o.op ++ rd) (i + 1) r + 1
def HV (P : Program) (nt : Nat) (ops : List Oper) (ovs : List (Nat × Ov)) (tab : zJ) (st : St) (k : St → Prop) : Prop :=
 match P.follows .mixedOrders && ops.all (fun o => !dz o), kH tab (List.replicate ops.length false), kH tab (List.replicate ops.length true) with
 | true, some st0, some st1 => zK st st0 = st0 ∧ Ga P nt ops ovs tab tab ∧ nS st1 k
 | _, _, _ => False
def pre (id : Nat) : bE → St → (List (Nat × Ov) → Option zJ → bE → St → Prop) → Prop
 | .w i o h, st, k => match Nat.beq i id with
  | true => k o none h st
  | false => k [] none (.w i o h) st
 | .y i o t h, st, k => match Nat.beq i id with
  | true => k o (some t) h st
  | false => k [] none (.y i o t h) st
 | .q i kp n h, st, k => match Nat.beq i id with
  | true => nS (keepS kp n st) (fun st' => pre id h st' k)
  | false => k [] none (.q i kp n h) st
 | .f i b h, st, k => match Nat.beq i id with
  | true => match lF b st with
   | some st' => nS st' (fun st' => pre id h st' k)
   | none => False
  | false => k [] none (.f i b h) st
 | .g i a j E sz enc d h, st, k => match Nat.beq i id with
  | true => match zI a j E sz enc d st with
   | some st' => nS st' (fun st' => pre id h st' k)
   | none => False
  | false => k [] none (.g i a j E sz enc d h) st
 | .gs i t E sz enc d h, st, k => match Nat.beq i id with
  | true => match adoptE t E sz enc d st with
   | some st' => nS st' (fun st' => pre id h st' k)
   | none => False
  | false => k [] none (.gs i t E sz enc d h) st
 | .mv i j a h, st, k => match Nat.beq i id with
  | true => match AO j a st with
   | some st' => nS st' (fun st' => pre id h st' k)
   | none => False
  | false => k [] none (.mv i j a h) st
 | .s i P x y, st, k => match Nat.beq i id with
  | true => (P → pre id x st k) ∧ (¬P → pre id y st k)
  | false => k [] none (.s i P x y) st
 | h, st, k => k [] none h st
def Jt : Operand → Nat
 | .tmp t => t + 1
 | _ => 0
def ti (t : Nat) (b : Bool) (X Y : bE → Prop) : bE → Prop
 | @bE.c t' P i x y => match Nat.beq (t' + 1) t with
  | true => b = @decide P i ∧ (P → X x) ∧ (¬P → Y y)
  | false => match b with | true => X (@bE.c t' P i x y) | false => Y (@bE.c t' P i x y)
 | @bE.n t' P i x y => match Nat.beq (t' + 1) t with
  | true => b = (!@decide P i) ∧ (¬P → X x) ∧ (P → Y y)
  | false => match b with | true => X (@bE.n t' P i x y) | false => Y (@bE.n t' P i x y)
 | .b t' x y => match Nat.beq (t' + 1) t with
  | true => (b = true → X x) ∧ (b = false → Y y)
  | false => match b with | true => X (.b t' x y) | false => Y (.b t' x y)
 | .t t' x => match Nat.beq (t' + 1) t with
  | true => b = true ∧ X x
  | false => match b with | true => X (.t t' x) | false => Y (.t t' x)
 | .u t' x => match Nat.beq (t' + 1) t with
  | true => b = false ∧ Y x
  | false => match b with | true => X (.u t' x) | false => Y (.u t' x)
 | h => match b with | true => X h | false => Y h
def Gh : Code → Option Nat
 | .region id _ _ => some id
 | .seq a _ => Gh a
 | .block _ a => Gh a
 | .loop a => Gh a
 | _ => none
def Ju (x : Code) : bE → Bool
 | .k id _ _ _ => match Gh x with | some i => Nat.beq i id | none => false
 | _ => false
@[reducible] def kSeq (n : bE → St → Prop) (K : bE → Exit → St → Prop) (h : bE) (e : Exit) (st : St) : Prop := match e with
 | .normal => n h st
 | e => K h e st
@[reducible] def kBlock (id : Nat) (K : bE → Exit → St → Prop) (h : bE) (e : Exit) (st : St) : Prop := match e with
 | .exit i => match Nat.beq i id with | true => K h .normal st | false => K h (.exit i) st
 | e => K h e st
def Gi (body : (bE → Exit → St → Prop) → bE → St → Prop) (K : bE → Exit → St → Prop) : Nat → bE → St → Prop
 | 0, _, _ => False
 | n + 1, h, st => body (fun h' e st' => match e with | .normal => Gi body K n h' st' | e => K h' e st') h st
def vc (P : Program) (nt : Nat) : Code → (bE → Exit → St → Prop) → bE → St → Prop
 | .skip, K, h, st => K h .normal st
 | .label _, K, h, st => K h .normal st
 | .exit i, K, h, st => K h (.exit i) st
 | .ret, K, h, st => K h .ret st
 | .seq x y, K, h, st => match Ju x h with
  | false => vc P nt x (kSeq (vc P nt y K) K) h st
  | true => match h with
   | .k _ L hx hy => vc P nt x (fun h' e st' => match e with | .normal => L.at (keepS L.keep L.n st') | e => K h' e st') hx st ∧ L.all (fun s => L.inv s → vc P nt y K (hy s) (L.mk s))
   | _ => False
 | .block i c, K, h, st => vc P nt c (kBlock i K) h st
 | .cond c x y, K, h, st => match fk st.env c with
  | .v (.bool b) => ti (Jt c) b (fun h => vc P nt x K h st) (fun h => vc P nt y K h st) h
  | _ => False
 | .loop c, K, h, st => match h with
  | .l L s0 hb => keepS L.keep L.n st = L.mk s0 ∧ L.inv s0 ∧ L.all (fun s => L.inv s → vc P nt c (fun h' e st' => match e with | .normal => L.ag s (keepS L.keep L.n st') | e => K h' e st') (hb s) (L.mk s))
  | .r n h => Gi (fun K => vc P nt c K) K n h st
  | _ => False
 | .region id ops draw, K, h, st => pre id h st fun o t h st => match t with
  | some tab => match draw with
   | true => HV P nt ops.toList o tab st (fun st => K h .normal st)
   | false => False
  | none => match draw with
   | false => uM P nt ops.toList o 0 ops.toList st (fun st => nS st (fun st => K h .normal st))
   | true => HU P nt ops.toList o (A3 o [] 0 ops.toList) st (fun st => nS st (fun st => K h .normal st))
 | _, _, _, _ => False
section
variable {C : kv} {Q : Exit → St → Prop}
theorem Ev.regA {st st' : St} {id : Nat} {ops : List Oper} (ovs : List (Nat × Ov)) {p : Prop} (h : dm C.P C.nt ops ovs 0 ops st = (st', p)) (hp : p) (hq : Q .normal st') : Ev C (.region id ops.toArray false) Q st := fun a w S μ hR =>
 wpIn_region_lit (jD ops 0 st S μ a w p hR h hp (fun S' μ' a' w' hR' => ⟨_, S', μ', hq, hR'⟩))
theorem HW {id : Nat} {c : Code} {k : List (Nat × Ov) → Option zJ → bE → St → Prop} (hk : ∀ o t h st, k o t h st → Ev C c Q st) : ∀ (h : bE) (st : St), pre id h st k → Ev C c Q st := by
 intro h
 induction h with
 | w i o h ih => intro st hp; unfold pre at hp; split at hp <;> exact hk _ _ _ _ hp
 | y i o t h ih => intro st hp; unfold pre at hp; split at hp <;> exact hk _ _ _ _ hp
 | q i kp n h ih =>
  intro st hp; unfold pre at hp; split at hp
  ·rw [qU] at hp; exact Ev.keep kp n rfl (ih _ hp)
  ·exact hk _ _ _ _ hp
 | f i b h ih =>
  intro st hp; unfold pre at hp; split at hp
  ·split at hp
   ·rename_i st' hf; rw [qU] at hp; exact Ev.freeze b hf (ih _ hp)
   ·exact hp.elim
  ·exact hk _ _ _ _ hp
 | g i a j E sz enc d h ih =>
  intro st hp; unfold pre at hp; split at hp
  ·split at hp
   ·rename_i st' hf; rw [qU] at hp; exact Ev.adopt a j E sz enc d hf (ih _ hp)
   ·exact hp.elim
  ·exact hk _ _ _ _ hp
 | gs i t E sz enc d h ih =>
  intro st hp; unfold pre at hp; split at hp
  ·split at hp
   ·rename_i st' hf; rw [qU] at hp; exact Ev.adoptE t E sz enc d hf (ih _ hp)
   ·exact hp.elim
  ·exact hk _ _ _ _ hp
 | mv i j a h ih =>
  intro st hp; unfold pre at hp; split at hp
  ·split at hp
   ·rename_i st' hf; rw [qU] at hp; exact Ev.move j a hf (ih _ hp)
   ·exact hp.elim
  ·exact hk _ _ _ _ hp
 | s i P x y ih1 ih2 =>
  intro st hp; unfold pre at hp; split at hp
  ·by_cases hP : P
   ·exact ih1 _ (hp.1 hP)
   ·exact ih2 _ (hp.2 hP)
  ·exact hk _ _ _ _ hp
 | _ => intro st hp; unfold pre at hp; exact hk _ _ _ _ hp
theorem gD {b : Bool} {X Y : bE → Prop} (h : bE) (hh : match b with | true => X h | false => Y h) : (b = true → ∃ h', X h') ∧ (b = false → ∃ h', Y h') := by
 cases b
 ·exact ⟨fun h => (by cases h), fun _ => ⟨_, hh⟩⟩
 ·exact ⟨fun _ => ⟨_, hh⟩, fun h => (by cases h)⟩
theorem D4 {t : Nat} {b : Bool} {X Y : bE → Prop} {h : bE} (hc : ti t b X Y h) : (b = true → ∃ h', X h') ∧ (b = false → ∃ h', Y h') := by
 cases h with
 | c t' P x y =>
  simp only [ti] at hc; split at hc
  ·obtain ⟨h1, h2, h3⟩ := hc
   subst h1
   exact ⟨fun h => ⟨_, h2 (of_decide_eq_true h)⟩, fun h => ⟨_, h3 (of_decide_eq_false h)⟩⟩
  ·exact gD _ hc
 | n t' P x y =>
  simp only [ti] at hc; split at hc
  ·obtain ⟨h1, h2, h3⟩ := hc
   subst h1
   exact ⟨fun h => ⟨_, h2 (by simpa using h)⟩, fun h => ⟨_, h3 (by simpa using h)⟩⟩
  ·exact gD _ hc
 | b t' x y =>
  simp only [ti] at hc; split at hc
  ·exact ⟨fun h => ⟨_, hc.1 h⟩, fun h => ⟨_, hc.2 h⟩⟩
  ·exact gD _ hc
 | t t' x =>
  simp only [ti] at hc; split at hc
  ·exact ⟨fun h => ⟨_, hc.2⟩, fun h => (by rw [hc.1] at h; cases h)⟩
  ·exact gD _ hc
 | u t' x =>
  simp only [ti] at hc; split at hc
  ·exact ⟨fun h => (by rw [hc.1] at h; cases h), fun h => ⟨_, hc.2⟩⟩
  ·exact gD _ hc
 | _ => exact gD _ hc
theorem Cy {id : Nat} {ops : Array Oper} {draw : Bool} {h : bE} {st : St} {K : bE → Exit → St → Prop} (hv : vc C.P C.nt (.region id ops draw) K h st) (hK : ∀ h st, K h .normal st → Q .normal st) : Ev C (.region id ops draw) Q st := by
 unfold vc at hv
 refine HW ?_ h st hv
 intro o t h st hq
 have ha : ops = ops.toList.toArray := by simp
 cases t with
 | some tab =>
  cases draw with
  | false => exact hq.elim
  | true =>
   change HV C.P C.nt ops.toList o tab st _ at hq
   unfold HV at hq
   cases hb : C.P.follows .mixedOrders && ops.toList.all (fun o => !dz o) with
   | false => rw [hb] at hq; exact hq.elim
   | true =>
   cases h0 : kH tab (List.replicate ops.toList.length false) with
   | none => rw [hb, h0] at hq; exact hq.elim
   | some st0 =>
   cases h1 : kH tab (List.replicate ops.toList.length true) with
   | none => rw [hb, h0, h1] at hq; exact hq.elim
   | some st1 =>
   rw [hb, h0, h1] at hq
   simp only [Bool.and_eq_true] at hb
   obtain ⟨q1, q2, q3⟩ := hq
   rw [qU] at q3
   rw [ha]
   exact Ev.any (st' := st1) o tab hb.1 hb.2 h0 q1 h1 rfl q2 (hK _ _ q3)
 | none =>
  cases draw with
  | false =>
   obtain ⟨h1, h2⟩ := rS _ _ _ _ hq
   rw [qU] at h2
   rw [ha]
   exact Ev.regA o rfl h1 (hK _ _ h2)
  | true =>
   rw [ha]
   refine Ev.dw o (A3 o [] 0 ops.toList) ?_
   have hq' : HU C.P C.nt ops.toList o (A3 o [] 0 ops.toList) st (fun st => nS st (fun st => K h .normal st)) := by simpa using hq
   exact D1 hq' (fun st1 h1 => hK _ _ (by rwa [qU] at h1))
theorem tj {c : Code} (ih : ∀ (K : bE → Exit → St → Prop) (h : bE) (st : St), vc C.P C.nt c K h st → Ev C c (fun e st => ∃ h', K h' e st) st) (K : bE → Exit → St → Prop) : ∀ (n : Nat) (h : bE) (st : St) (S : Nat → Prop) (μ : Nat → Value) (a : Act) (w : World), ba C S μ st a w →
  Gi (fun K => vc C.P C.nt c K) K n h st → Code.roundsIn (kk C.rd) 0 C.P c (fun e a' w' => ∃ st' S' μ', (∃ h', K h' e st') ∧ ba C S' μ' st' a' w') n a w
 | 0, h, st, S, μ, a, w, hR, hv => hv.elim
 | n + 1, h, st, S, μ, a, w, hR, hv => by
  rw [roundsIn_succ]
  refine wpIn_mono (ih _ _ _ hv a w S μ hR) ?_
  rintro e a' w' ⟨st', S', μ', ⟨h', hq⟩, hR'⟩
  cases e with
  | normal => exact tj ih K n h' st' S' μ' a' w' hR' hq
  | exit i => exact ⟨st', S', μ', ⟨h', hq⟩, hR'⟩
  | goto l => exact ⟨st', S', μ', ⟨h', hq⟩, hR'⟩
  | ret => exact ⟨st', S', μ', ⟨h', hq⟩, hR'⟩
  | panic ch => exact ⟨st', S', μ', ⟨h', hq⟩, hR'⟩
  | outgrown => exact ⟨st', S', μ', ⟨h', hq⟩, hR'⟩
theorem Cz {c : Code} (ih : ∀ (K : bE → Exit → St → Prop) (h : bE) (st : St), vc C.P C.nt c K h st → Ev C c (fun e st => ∃ h', K h' e st) st) (K : bE → Exit → St → Prop) (n : Nat) (h : bE) (st : St) (hv : Gi (fun K => vc C.P C.nt c K) K n h st) : Ev C (.loop c) (fun e st => ∃ h', K h' e st) st :=
 fun a w S μ hR => wpIn_loop_rounds n (tj ih K n h st S μ a w hR hv)
theorem tn : ∀ (c : Code) (K : bE → Exit → St → Prop) (h : bE) (st : St), vc C.P C.nt c K h st → Ev C c (fun e st => ∃ h', K h' e st) st := by
 intro c
 induction c with
 | skip => intro K h st hv; exact Ev.skip ⟨h, hv⟩
 | label l => intro K h st hv; exact Ev.label ⟨h, hv⟩
 | exit i => intro K h st hv; exact Ev.exit ⟨h, hv⟩
 | ret => intro K h st hv; exact Ev.ret ⟨h, hv⟩
 | region id ops draw => intro K h st hv; exact Cy hv (fun h st hk => ⟨h, hk⟩)
 | seq x y ihx ihy =>
  intro K h st hv
  unfold vc at hv
  split at hv
  ·refine Ev.seq ((ihx _ _ _ hv).mono ?_)
   rintro e st' ⟨h', hq⟩
   cases e with
   | normal => exact ihy _ _ _ hq
   | exit i => exact ⟨h', hq⟩
   | goto l => exact ⟨h', hq⟩
   | ret => exact ⟨h', hq⟩
   | panic ch => exact ⟨h', hq⟩
   | outgrown => exact ⟨h', hq⟩
  ·cases h with
   | k id L hx hy =>
    obtain ⟨h1, h2⟩ := hv
    refine Ev.cut L.keep L.n L.mk L.inv ((ihx _ _ _ h1).mono ?_) (fun s hs => ihy _ _ _ (L.hall _ h2 s hs))
    rintro e st' ⟨h', hq⟩
    cases e with
    | normal => exact hq
    | exit i => exact ⟨h', hq⟩
    | goto l => exact ⟨h', hq⟩
    | ret => exact ⟨h', hq⟩
    | panic ch => exact ⟨h', hq⟩
    | outgrown => exact ⟨h', hq⟩
   | _ => exact hv.elim
 | cond c x y ihx ihy =>
  intro K h st hv
  unfold vc at hv
  split at hv
  ·rename_i b hb
   obtain ⟨h1, h2⟩ := D4 hv
   exact Ev.cond b hb (fun hb => by obtain ⟨h', q⟩ := h1 hb; exact ihx _ _ _ q) (fun hb => by obtain ⟨h', q⟩ := h2 hb; exact ihy _ _ _ q)
  ·exact hv.elim
 | block i c ih =>
  intro K h st hv
  unfold vc at hv
  refine Ev.block ((ih _ _ _ hv).mono ?_)
  rintro e st' ⟨h', hq⟩
  cases e with
  | exit j =>
   show (if Nat.beq j i = true then _ else _)
   change (match Nat.beq j i with | true => K h' .normal st' | false => K h' (.exit j) st') at hq
   by_cases hj : Nat.beq j i = true
   ·rw [hj] at hq; rw [if_pos hj]; exact ⟨h', hq⟩
   ·rw [if_neg hj]
    simp only [Bool.not_eq_true] at hj
    rw [hj] at hq
    exact ⟨h', hq⟩
  | normal => exact ⟨h', hq⟩
  | goto l => exact ⟨h', hq⟩
  | ret => exact ⟨h', hq⟩
  | panic ch => exact ⟨h', hq⟩
  | outgrown => exact ⟨h', hq⟩
 | loop c ih =>
  intro K h st hv
  unfold vc at hv
  split at hv
  ·rename_i σ L s0 hb
   obtain ⟨h1, h2, h3⟩ := hv
   refine Ev.loop L.keep L.n L.mk L.inv L.m s0 h1 h2 ?_
   intro s hs
   refine (ih _ _ _ (L.hall _ h3 s hs)).mono ?_
   rintro e st' ⟨h', hq⟩
   cases e with
   | normal => exact hq
   | exit i => exact ⟨h', hq⟩
   | goto l => exact ⟨h', hq⟩
   | ret => exact ⟨h', hq⟩
   | panic ch => exact ⟨h', hq⟩
   | outgrown => exact ⟨h', hq⟩
  ·exact Cz ih K _ _ _ hv
  ·exact hv.elim
 | _ => intro K h st hv; exact (by unfold vc at hv; exact hv.elim)
end
def rI (P : Program) (st : St) : List ResultVar → (List D → Prop) → Prop
 | [], k => k []
 | r :: rs, k => match Cp P st r with
  | (d, p) => p ∧ rI P st rs (fun ds => k (d :: ds))
theorem rV {P : Program} {st : St} : ∀ (rs : List ResultVar) (k : List D → Prop), rI P st rs k → (resL P st rs).2 ∧ k (resL P st rs).1
 | [], k, h => ⟨trivial, h⟩
 | r :: rs, k, h => by
  unfold rI at h
  unfold resL
  generalize hq : Cp P st r = q at h
  obtain ⟨d, p⟩ := q
  obtain ⟨h1, h2⟩ := h
  obtain ⟨h3, h4⟩ := rV rs _ h2
  exact ⟨⟨h1, h3⟩, h4⟩
def Jv (H : List az) : D → D → Prop
 | .tup xs, .tup ys => Jd H xs ys
 | x, y => Hr H x y
def Kx : D → D → Prop
 | .tup xs, .tup ys => Kv xs ys
 | x, y => HM x y
def D5 : List D → D
 | [d] => d
 | ds => .tup ds
def HX (al : Bool) (H : List az) (x r : D) : Prop := match al with
 | true => Jv H x r
 | false => Jv H x r ∧ Kx x r
def Jw (P : Program) (fn : Func) (al : Bool) (r : D) (_ : bE) (e : Exit) (st : St) : Prop := match e with
 | .normal => rI P st fn.results.toList (fun ds => HX al st.heap (D5 ds) r)
 | .ret => rI P st fn.results.toList (fun ds => HX al st.heap (D5 ds) r)
 | _ => False
theorem wR {P : Program} {st : St} {rs : List ResultVar} : Cq P rs st = (D5 (resL P st rs).1, (resL P st rs).2) := by
 unfold Cq
 generalize resL P st rs = q
 obtain ⟨ds, p⟩ := q
 match ds with
 | [] => rfl
 | [d] => rfl
 | d :: e :: r => rfl
theorem A4 {al : Bool} {H : List az} {x r : D} (h1 : Jv H x r) (h2 : al = true ∨ Kx x r) : yg al H x r := by
 unfold yg
 split
 ·exact ⟨h1, h2⟩
 ·rename_i hne
  have e1 : Jv H x r = Hr H x r := by
   unfold Jv; split
   ·exact (hne _ _ rfl rfl).elim
   ·rfl
  have e2 : Kx x r = HM x r := by
   unfold Kx; split
   ·exact (hne _ _ rfl rfl).elim
   ·rfl
  rw [e1] at h1; rw [e2] at h2
  exact ⟨h1, h2⟩
theorem Gj {P : Program} {fn : Func} {al : Bool} {r : D} {h : bE} {e : Exit} {st : St} (hk : Jw P fn al r h e st) : Jj P fn al r e st := by
 have key : rI P st fn.results.toList (fun ds => HX al st.heap (D5 ds) r) → fI P fn st ∧ yg al st.heap (gq P fn st) r := by
  intro hq
  obtain ⟨h1, h2⟩ := rV _ _ hq
  unfold fI gq
  rw [wR]
  refine ⟨h1, ?_⟩
  cases al
  ·exact A4 h2.1 (.inr h2.2)
  ·exact A4 h2 (.inl rfl)
 cases e with
 | normal => exact key hk
 | ret => exact key hk
 | exit i => exact hk.elim
 | goto l => exact hk.elim
 | panic ch => exact hk.elim
 | outgrown => exact hk.elim
theorem af.vc {P : Program} {f : FuncId} {fn : Func} {c : Code} {as : List D} {al : Bool} {r : D} {V : Prop} (hint : bE) (hf : P.funcs[f]? = some fn) (hb : fn.body = some c) (hn : Nat.ble as.length fn.ntmps = true) (hr : ge r = true)
  (hv : Proofs.YtgmpoenfoacofaaGreat.vc P fn.ntmps c (Jw P fn al r) hint ⟨ir 0 as, []⟩ = V) (pf : V) : af P f as [] al r [] := by
 refine af.of_ev hf hb hn hr ?_
 intro C h1 h2 _
 subst h1
 rw [← hv, ← h2] at pf
 exact (tn c _ hint _ pf).mono (fun e st' ⟨h', hk⟩ => Gj hk)
def Jx (P : Program) (fn : Func) (r : D) (H : List az) (_ : bE) (e : Exit) (st : St) : Prop := match e with
 | .normal => rI P st fn.results.toList (fun ds => uD (D5 ds) r ∧ st.heap.take H.length = H)
 | .ret => rI P st fn.results.toList (fun ds => uD (D5 ds) r ∧ st.heap.take H.length = H)
 | _ => False
theorem Gk {P : Program} {fn : Func} {r : D} {H : List az} {h : bE} {e : Exit} {st : St} (hk : Jx P fn r H h e st) : Jh P fn r H e st := by
 have key : rI P st fn.results.toList (fun ds => uD (D5 ds) r ∧ st.heap.take H.length = H) → fI P fn st ∧ uD (gq P fn st) r ∧ st.heap.take H.length = H := by
  intro hq
  obtain ⟨h1, h2⟩ := rV _ _ hq
  unfold fI gq
  rw [wR]
  exact ⟨h1, h2⟩
 cases e with
 | normal => exact key hk
 | ret => exact key hk
 | exit i => exact hk.elim
 | goto l => exact hk.elim
 | panic ch => exact hk.elim
 | outgrown => exact hk.elim
theorem gQ.vc {P : Program} {f : FuncId} {fn : Func} {c : Code} {ds : List D} {H H' : List az} {r : D} {V : Prop} (hint : bE) (hf : P.funcs[f]? = some fn) (hb : fn.body = some c) (hn : Nat.ble ds.length fn.ntmps = true)
  (hv : Proofs.YtgmpoenfoacofaaGreat.vc P fn.ntmps c (Jx P fn r H') hint ⟨ir 0 ds, H⟩ = V) (pf : V) : gQ P f ds H r H' := by
 refine ⟨fn, c, hf, hb, hn, ?_⟩
 intro C h1 h2 _
 subst h1
 rw [← hv, ← h2] at pf
 exact (tn c _ hint _ pf).mono (fun e st' ⟨h', hk⟩ => Gk hk)
def tp : az → Prop
 | .arr _ _ _ _ l => l = []
 | _ => False
def Hy : Option az → az → Prop
 | some B', B => B' = B
 | none, _ => False
def Gl (H : List az) (x r : D) (B : az) : Prop := match x with
 | .nils => r = .own 0 ∧ tp B
 | .own i => r = .own 0 ∧ Hy H[i]? B
 | x => ∃ id, H[id]? = some B ∧ zO id x r
def Hz (P : Program) (fn : Func) (r : D) (B : az) (_ : bE) (e : Exit) (st : St) : Prop := match e with
 | .normal => rI P st fn.results.toList (fun ds => Gl st.heap (D5 ds) r B)
 | .ret => rI P st fn.results.toList (fun ds => Gl st.heap (D5 ds) r B)
 | _ => False
def D6 (P : Program) (fn : Func) (r : D) (B : az) : Exit → St → Prop
 | .normal, st => fI P fn st ∧ ((∃ id, st.heap[id]? = some B ∧ zO id (gq P fn st) r) ∨ (gq P fn st = .nils ∧ r = .own 0 ∧ tp B))
 | .ret, st => fI P fn st ∧ ((∃ id, st.heap[id]? = some B ∧ zO id (gq P fn st) r) ∨ (gq P fn st = .nils ∧ r = .own 0 ∧ tp B))
 | _, _ => False
theorem D7 {P : Program} {fn : Func} {r : D} {B : az} {h : bE} {e : Exit} {st : St} (hk : Hz P fn r B h e st) : D6 P fn r B e st := by
 have key : rI P st fn.results.toList (fun ds => Gl st.heap (D5 ds) r B) → fI P fn st ∧ ((∃ id, st.heap[id]? = some B ∧ zO id (gq P fn st) r) ∨ (gq P fn st = .nils ∧ r = .own 0 ∧ tp B)) := by
  intro hq
  obtain ⟨h1, h2⟩ := rV _ _ hq
  unfold fI gq
  rw [wR]
  refine ⟨h1, ?_⟩
  generalize D5 (resL P st fn.results.toList).1 = x at h2 ⊢
  unfold Gl at h2
  split at h2
  ·exact .inr ⟨rfl, h2⟩
  ·rename_i i
   obtain ⟨rfl, h2⟩ := h2
   unfold Hy at h2
   split at h2
   ·rename_i B' hB'
    subst h2
    exact .inl ⟨i, hB', rfl, rfl⟩
   ·exact h2.elim
  ·exact .inl h2
 cases e with
 | normal => exact key hk
 | ret => exact key hk
 | exit i => exact hk.elim
 | goto l => exact hk.elim
 | panic ch => exact hk.elim
 | outgrown => exact hk.elim
theorem af.of_evO' {P : Program} {f : FuncId} {fn : Func} {c : Code} {as : List D} {r : D} {B : az} (hf : P.funcs[f]? = some fn) (hb : fn.body = some c) (hn : Nat.ble as.length fn.ntmps = true) (hB : B.isArr = true)
  (h : ∀ C : kv, C.P = P → C.nt = fn.ntmps → C.rd = none → Ev C c (D6 P fn r B) ⟨ir 0 as, []⟩) : af P f as [] false r [B] := by
 intro S μ w us hS hH hus
 rw [Nat.ble_eq] at hn
 let C : kv := ⟨P, w, S, fn.ntmps, [], none⟩
 have hrel : ba C S μ ⟨ir 0 as, []⟩ (sV us fn.ntmps) w :=
  ⟨rfl, rfl, rfl, Nat.le_refl _, fun _ _ => rfl, fun _ h => h, fun _ h => .inl h, hS, rP hus hn, ⟨fun id B hB => by simp at hB, fun i j A B b hA => by simp at hA, fun i A b hA => by simp at hA⟩, fun i A b hA => by simp at hA, ⟨[], rfl, by simp [C], fun b hb => by simp [C] at hb⟩, oi hus.1 hn⟩
 refine (it (C := C) hf hb rfl hrel (h C rfl rfl rfl) (fun e st' hq => ?_)).mono ?_
 ·cases e <;> first | exact ⟨.inl rfl, hq.1⟩ | exact ⟨.inr rfl, hq.1⟩ | exact hq.elim
 rintro e w' ⟨u, e0, st', S', μ', a', rfl, hq, hR, hx⟩
 have hq : (∃ id, st'.heap[id]? = some B ∧ zO id (gq P fn st') r) ∨ (gq P fn st' = .nils ∧ r = .own 0 ∧ tp B) := by
  cases e0 <;> first | exact hq.2 | exact hq.elim
 have hl : B.live = true := by cases B <;> first | rfl | cases hB
 have one : ∀ (i : Nat) (A : az), [B][i]? = some A → i = 0 ∧ A = B := by
  intro i A hA
  match i with
  | 0 => simp at hA; exact ⟨rfl, hA.symm⟩
  | i + 1 => simp at hA
 rcases hq with ⟨id, hid, hr⟩ | ⟨hn0, rfl, hem⟩
 ·refine ⟨u, fun _ => μ' id, S', rfl, hR.os, hR.tape, hR.output, hR.size, fun k hk _ => hR.old k hk, hR.mono, hR.new, hR.slt, DU hx hr, ⟨?_, ?_, ?_⟩, ?_, fun i A hA => by simp at hA⟩
  ·intro i A hA
   obtain ⟨rfl, rfl⟩ := one i A hA
   refine (hR.heap.box id _ hid).stable (fun _ h _ => h) (fun _ _ _ => rfl) (Nat.le_refl _) (fun j hj => ?_) (fun _ _ => rfl)
   cases A <;> first | (cases hB; done) | cases hj
  ·intro i j A A' b hA hA' _ _ _ _
   rw [(one i A hA).1, (one j A' hA').1]
  ·intro i A b hA la hb
   obtain ⟨rfl, rfl⟩ := one i A hA
   exact hR.heap.notS id _ b hid hl hb
  ·intro i A b hA la hb
   obtain ⟨rfl, rfl⟩ := one i A hA
   exact .inl (hR.may id _ b hid hl hb)
 ·rw [hn0] at hx
  cases hx
  refine ⟨_, fun _ => .slice none 0 0, S', rfl, hR.os, hR.tape, hR.output, hR.size, fun k hk _ => hR.old k hk, hR.mono, hR.new, hR.slt, ao.own (μ := fun _ => .slice none 0 0) 0, ⟨?_, ?_, ?_⟩, ?_, fun i A hA => by simp at hA⟩
  ·intro i A hA
   obtain ⟨rfl, rfl⟩ := one i A hA
   cases A <;> first | cases hem | skip
   exact ⟨fun i x hx => by simp at hx, [], World.ownsRow_nil w' 0 _ _, fun i x j y hx => by simp at hx⟩
  ·intro i j A A' b hA hA' _ _ _ _
   rw [(one i A hA).1, (one j A' hA').1]
  ·intro i A b hA la hb
   simp [ay] at hb
  ·intro i A b hA la hb
   simp [ay] at hb
theorem af.vcO {P : Program} {f : FuncId} {fn : Func} {c : Code} {as : List D} {r : D} {B : az} {V : Prop} (hint : bE) (hf : P.funcs[f]? = some fn) (hb : fn.body = some c) (hn : Nat.ble as.length fn.ntmps = true) (hB : B.isArr = true)
  (hv : Proofs.YtgmpoenfoacofaaGreat.vc P fn.ntmps c (Hz P fn r B) hint ⟨ir 0 as, []⟩ = V) (pf : V) : af P f as [] false r [B] := by
 refine af.of_evO' hf hb hn hB ?_
 intro C h1 h2 _
 subst h1
 rw [← hv, ← h2] at pf
 exact (tn c _ hint _ pf).mono (fun e st' ⟨h', hk⟩ => D7 hk)
theorem af.nilcases {P : Program} {f : FuncId} {sz : Nat} {α : Type} {enc : α → List V} {d : α} {l : List α} {as : List D} {al : Bool} {r : D} {H' : List az}
  (h1 : l ≠ [] → af P f (.v (.sl sz enc d l) :: as) [] al r H') (h2 : l = [] → af P f (.nils :: as) [] al r H') (h3 : l = [] → af P f (.v .esl :: as) [] al r H') : af P f (.v (.sl sz enc d l) :: as) [] al r H' := by
 by_cases hl : l = []
 ·intro S μ w us hS hH hus
  have hsz := hus.1
  simp only [List.length_cons] at hsz
  have h0 : us[0]? = some us[0] := Array.getElem?_eq_getElem (by omega)
  have hx := bN (hus.2 0 _ _ rfl h0)
  have re : ∀ (x : D), ao S μ w x us[0] → aL S μ w (x :: as) us := fun x hx => ⟨by simp [hsz], fun j y u hy hu => by
   cases j with
   | zero => simp at hy; subst hy; rw [h0] at hu; cases hu; exact hx
   | succ j => exact hus.2 (j + 1) y u (by simpa using hy) hu⟩
  obtain ⟨p, c, hu, q1, q2, q3, q4⟩ := fx hx
  subst hl
  cases p with
  | none =>
   have := q3 rfl
   subst this
   exact h2 rfl S μ w us hS hH (re _ (by rw [hu]; exact .nils))
  | some p => exact h3 rfl S μ w us hS hH (re _ (by rw [hu]; exact .v _ _ (.esl p c q2)))
 ·exact h1 hl
abbrev wS (P : Program) (g : FuncId) (ds : List D) (H : List az) (E : List (Nat × D)) (H' N : List az) (r : D) : Prop := ∀ tm : Array Value, gQ P g ds (H ++ [.frame tm E]) r (H' ++ .frame tm E :: N)
def TT : Nat → Prop → Prop
 | 0, p => p
 | n + 1, p => True ∧ TT n p
theorem tt : ∀ {n : Nat} {p : Prop}, p → TT n p
 | 0, _, h => h
 | n + 1, _, h => ⟨trivial, tt h⟩
abbrev CB (b : Bool) (x y : Prop) : Prop := (b = true → x) ∧ (b = false → y)
abbrev CD (P : Prop) [Decidable P] (x y : Prop) : Prop := CB (decide P) x y
abbrev CN (P : Prop) [Decidable P] (x y : Prop) : Prop := CB (!decide P) x y
abbrev CS (P x y : Prop) : Prop := (P → x) ∧ (¬P → y)
theorem cd {P : Prop} [Decidable P] {x y : Prop} (h1 : P → x) (h2 : ¬P → y) : CD P x y := ⟨fun h => h1 (of_decide_eq_true h), fun h => h2 (of_decide_eq_false h)⟩
theorem cn {P : Prop} [Decidable P] {x y : Prop} (h1 : ¬P → x) (h2 : P → y) : CN P x y := ⟨fun h => h1 (by simpa using h), fun h => h2 (by simpa using h)⟩
abbrev GO {σ : Type} (L : Lp σ) (s0 : σ) (body : Prop) : Prop := L.mk s0 = L.mk s0 ∧ L.inv s0 ∧ body
abbrev AG {σ : Type} (L : Lp σ) (s s' : σ) : Prop := L.ag s (L.mk s')
abbrev AT {σ : Type} (L : Lp σ) (s' : σ) : Prop := L.at (L.mk s')
theorem vT {P : Prop} [Decidable P] (h : P) : True ∧ decide P = true := ⟨trivial, decide_eq_true h⟩
theorem vF {P : Prop} [Decidable P] (h : ¬P) : True ∧ decide P = false := ⟨trivial, decide_eq_false h⟩
theorem L5 {P : Prop} [Decidable P] (h : ¬P) : (!decide P) = true := by simp [h]
theorem KB {P : Prop} [Decidable P] (h : P) : (!decide P) = false := by simp [h]
theorem nT {P : Prop} [Decidable P] (h : ¬P) : True ∧ (!decide P) = true := ⟨trivial, L5 h⟩
theorem nF {P : Prop} [Decidable P] (h : P) : True ∧ (!decide P) = false := ⟨trivial, KB h⟩
theorem L6 {b : Bool} (h : b = true) : b = true := h
theorem LX {b : Bool} (h : ¬b = true) : b = false := by simpa using h
theorem KC {b : Bool} (h : ¬b = true) : (!b) = true := by simpa using h
theorem xO {b : Bool} (h : b = true) : (!b) = false := by simp [h]
theorem bT {b : Bool} (h : b = true) : True ∧ b = true := ⟨trivial, h⟩
theorem bF {b : Bool} (h : ¬b = true) : True ∧ b = false := ⟨trivial, LX h⟩
theorem mT {b : Bool} (h : ¬b = true) : True ∧ (!b) = true := ⟨trivial, KC h⟩
theorem mF {b : Bool} (h : b = true) : True ∧ (!b) = false := ⟨trivial, xO h⟩
abbrev HE (H : List az) : Prop := H = H
abbrev IX (i n : Int) : Prop := 0 ≤ i ∧ i < n
theorem ix {i n : Int} (h : 0 ≤ i ∧ i < n := by first | omega | (simp; omega)) : IX i n := h
theorem om {p : Prop} (h : p := by first | omega | (simp; first | done | omega)) : p := h
abbrev W6 (x : Int) : Prop := True ∧ IntKind.i64.wrap x = x
theorem w6 {x : Int} (h1 : -9223372036854775808 ≤ x := by first | omega | (simp; first | done | omega)) (h2 : x ≤ 9223372036854775807 := by first | omega | (simp; first | done | omega)) : W6 x := ⟨trivial, AZ rfl h1 h2⟩
abbrev QD (a n : Int) : Prop := n ≠ 0 ∧ IntKind.i64.wrap (Int.tdiv a n) = a / n
theorem qd {a n : Int} (h0 : 0 ≤ a := by first | omega | (simp; omega)) (h1 : a ≤ 9223372036854775807 := by first | omega | (simp; omega)) (hn : 0 < n := by first | omega | (simp; omega)) : QD a n := by
 refine ⟨by omega, ?_⟩
 rw [Int.tdiv_eq_ediv_of_nonneg h0, IntKind.wrap_i64]
 have := Int.ediv_nonneg h0 (Int.le_of_lt hn)
 have := Int.ediv_le_self n h0
 omega
abbrev QM (a n : Int) : Prop := n ≠ 0 ∧ Int.tmod a n = a % n
theorem qm {a n : Int} (h0 : 0 ≤ a := by first | omega | (simp; omega)) (hn : 0 < n := by first | omega | (simp; omega)) : QM a n := ⟨by omega, Int.tmod_eq_emod_of_nonneg h0⟩
theorem af.recast {P : Program} {f : FuncId} {as as' : List D} {al : Bool} {r : D} (h : wz [] as as') (hc : af P f as' [] al r []) : af P f as [] al r [] := fun S μ w us hS hH hus =>
 hc S μ w us hS hH (lD hH (fun _ h => h) hS (.inl fun i A b hA => by simp at hA) h hus)
structure Ct : Type 1 where
 f : FuncId
 as : List D
 al : Bool
 r : D
abbrev Ct.O (c : Ct) : Ov := .call none c.al c.r
abbrev Ct.O' (c : Ct) : Ov := .call (some c.as) c.al c.r
abbrev Ct.C (P : Program) (c : Ct) : Prop := af P c.f c.as [] c.al c.r []
abbrev Ct.K (P : Program) (c : Ct) : Prop := wz [] c.as c.as ∧ af P c.f c.as [] c.al c.r []
structure A5 : Type 1 where
 f : FuncId
 as : List D
 r : D
 B : az
abbrev A5.O (c : A5) : Ov := .ownd none c.r c.B
abbrev A5.O' (c : A5) : Ov := .ownd (some c.as) c.r c.B
mutual
def kI : D → Bool
 | .v (.mp _) => false
 | .agg cs => eW cs
 | .tup cs => eW cs
 | .fn _ a b => eW a && eW b
 | _ => true
def eW : List D → Bool
 | [] => true
 | d :: r => kI d && eW r
end
theorem D8 : ∀ (x : V), (∀ es, x ≠ .mp es) → DD x x
 | .int k n, _ => by simp [DD]
 | .bool b, _ => rfl
 | .str s, _ => rfl
 | .nilf, _ => trivial
 | .nsl, _ => trivial
 | .esl, _ => trivial
 | .sl sz enc d l, _ => by simp [DD]
 | .mp es, h => (h es rfl).elim
theorem D9 : ∀ (x : D), kI x = true → Hq x x
 | .v x, h => D8 x (fun es e => by subst e; simp [kI] at h)
 | .nils, _ => rfl
 | .own i, _ => rfl
 | .ptr _ _ _ _, _ => rfl
 | .iptr cs o, _ => by simp [Hq]
 | .agg _, _ => rfl
 | .tup _, _ => rfl
 | .fn _ _ _, _ => rfl
 | .yld _, _ => rfl
 | .capd _, _ => rfl
 | .junk, _ => trivial
theorem yq (x : D) (h : kI x = true) : F4 [] x x := by
 cases x <;> exact D9 _ h
theorem yr : ∀ (l : List D), eW l = true → Jc [] l l
 | [], _ => trivial
 | d :: r, h => by simp only [eW, Bool.and_eq_true] at h; exact ⟨yq d h.1, yr r h.2⟩
theorem yu (x : D) (h : kI x = true) : I2 [] x x := by
 cases x <;> exact yq _ h
theorem tq : ∀ (l : List D), eW l = true → Je [] l l
 | [], _ => trivial
 | d :: r, h => by simp only [eW, Bool.and_eq_true] at h; exact ⟨yu d h.1, tq r h.2⟩
theorem tr (x : D) (h : kI x = true) : Kt [] x x := by
 cases x with
 | agg xs => exact yr _ (by simpa [kI] using h)
 | fn f a b => simp only [kI, Bool.and_eq_true] at h; exact ⟨rfl, tq a h.1, tq b h.2⟩
 | _ => exact yu _ h
theorem cD : ∀ (l : List D), eW l = true → wz [] l l
 | [], _ => trivial
 | d :: r, h => by simp only [eW, Bool.and_eq_true] at h; exact ⟨tr d h.1, cD r h.2⟩
end Go.Proofs.YtgmpoenfoacofaaGreat
