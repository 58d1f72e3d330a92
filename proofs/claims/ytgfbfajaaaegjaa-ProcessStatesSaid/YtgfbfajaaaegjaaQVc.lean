/-
  What is owed of a function's code, computed: one condition for all its ways. Generic: over any program.
-/
import Derived.Test.YtgfbfajaaaegjaaQDr
import Derived.LoopNIn
namespace Go.Proofs.Ytgfbfajaaaegjaa
open Go.RowKit
set_option linter.unusedVariables false
set_option linter.unusedSimpArgs false
structure Lp (σ : Type) : Type 1 where
 make ::
 keep : List Nat
 n : Nat
 all : (σ → Prop) → Prop
 hall : ∀ P, all P → ∀ s, P s
 mk : σ → St
 inv : σ → Prop
 m : σ → Nat
abbrev lm {α : Type} (keep : List Nat) (n : Nat) (mk : α → St) (inv : α → Prop) (m : α → Nat) : Lp α := ⟨keep, n, fun P => ∀ a, P a, fun _ h => h, mk, inv, m⟩
abbrev A6 {α β : Type} (keep : List Nat) (n : Nat) (mk : α → β → St) (inv : α → β → Prop) (m : α → β → Nat) : Lp (α × β) :=
 ⟨keep, n, fun P => ∀ a b, P (a, b), fun _ h ⟨a, b⟩ => h a b, fun | (a, b) => mk a b, fun | (a, b) => inv a b, fun | (a, b) => m a b⟩
abbrev zW {α β γ : Type} (keep : List Nat) (n : Nat) (mk : α → β → γ → St) (inv : α → β → γ → Prop) (m : α → β → γ → Nat) : Lp (α × β × γ) :=
 ⟨keep, n, fun P => ∀ a b c, P (a, b, c), fun _ h ⟨a, b, c⟩ => h a b c, fun | (a, b, c) => mk a b c, fun | (a, b, c) => inv a b c, fun | (a, b, c) => m a b c⟩
abbrev DU {α β γ δ : Type} (keep : List Nat) (n : Nat) (mk : α → β → γ → δ → St) (inv : α → β → γ → δ → Prop) (m : α → β → γ → δ → Nat) : Lp (α × β × γ × δ) :=
 ⟨keep, n, fun P => ∀ a b c d, P (a, b, c, d), fun _ h ⟨a, b, c, d⟩ => h a b c d, fun | (a, b, c, d) => mk a b c d, fun | (a, b, c, d) => inv a b c d, fun | (a, b, c, d) => m a b c d⟩
def Lp.ag {σ : Type} (L : Lp σ) (s : σ) (st : St) : Prop := ∃ s', st = L.mk s' ∧ L.inv s' ∧ L.m s' < L.m s
def Lp.at {σ : Type} (L : Lp σ) (st : St) : Prop := ∃ s', st = L.mk s' ∧ L.inv s'
inductive bx : Type 1
 | e
 | w (id : Nat) (o : List (Nat × Ov)) (h : bx)
 | q (id : Nat) (keep : List Nat) (n : Nat) (h : bx)
 | f (id b : Nat) (h : bx)
 | g (id i j E sz : Nat) {α : Type} (enc : α → List V) (d : α) (h : bx)
 | gs (id t E sz : Nat) {α : Type} (enc : α → List V) (d : α) (h : bx)
 | mv (id j i : Nat) (h : bx)
 | s (id : Nat) (P : Prop) (x y : bx)
 | y (id : Nat) (o : List (Nat × Ov)) (tab : vD) (h : bx)
 | c (t : Nat) (P : Prop) [i : Decidable P] (x y : bx)
 | n (t : Nat) (P : Prop) [i : Decidable P] (x y : bx)
 | b (t : Nat) (x y : bx)
 | t (t : Nat) (x : bx)
 | u (t : Nat) (x : bx)
 | l {σ : Type} (L : Lp σ) (s0 : σ) (h : σ → bx)
 | r (n : Nat) (h : bx)
 | k (id : Nat) {σ : Type} (L : Lp σ) (x : bx) (h : σ → bx)
def Cv (o : Oper) : Bool := match o.op with
 | .store _ _ _ => true
 | .call ⟨.builtin .append, _, _⟩ => true
 | .call ⟨.builtin .copy, _, _⟩ => true
 | _ => false
def Cw : Ov → Bool
 | .inl _ _ _ => true
 | .inls _ => true
 | _ => false
def Cx : Ov → Bool
 | .app _ _ _ _ _ _ => true
 | _ => false
def Cy : Ov → Bool
 | .val .junk => true
 | _ => false
def wF (ovs : List (Nat × Ov)) : List Nat → Nat → List Oper → Nat
 | _, _, [] => 0
 | rd, i, o :: r => if (Cv o && !(Cx (iz ovs i) || Cy (iz ovs i))) || Cw (iz ovs i) || (match o.dst with | some t => rd.any (fun s => Nat.beq t s) | none => false) then 0 else wF ovs (nP o.op ++ rd) (i + 1) r + 1
def Bs (P : Program) (nt : Nat) (ops : List Oper) (ovs : List (Nat × Ov)) (tab : vD) (st : St) (k : St → Prop) : Prop :=
 match P.follows .mixedOrders && ops.all (fun o => !c7 o), jv tab (List.replicate ops.length false), jv tab (List.replicate ops.length true) with
 | true, some st0, some st1 => vE st st0 = st0 ∧ zQ P nt ops ovs tab tab ∧ nS st1 k
 | _, _, _ => False
def pre (id : Nat) : bx → St → (List (Nat × Ov) → Option vD → bx → St → Prop) → Prop
 | .w i o h, st, k => match Nat.beq i id with
  | true => k o none h st
  | false => k [] none (.w i o h) st
 | .y i o t h, st, k => match Nat.beq i id with
  | true => k o (some t) h st
  | false => k [] none (.y i o t h) st
 | .q i kp n h, st, k => match Nat.beq i id with
  | true => nS (keepS kp n st) (fun st' => pre id h st' k)
  | false => k [] none (.q i kp n h) st
 | .f i b h, st, k => match Nat.beq i id with
  | true => match j6 b st with
   | some st' => nS st' (fun st' => pre id h st' k)
   | none => False
  | false => k [] none (.f i b h) st
 | .g i a j E sz enc d h, st, k => match Nat.beq i id with
  | true => match vC a j E sz enc d st with
   | some st' => nS st' (fun st' => pre id h st' k)
   | none => False
  | false => k [] none (.g i a j E sz enc d h) st
 | .gs i t E sz enc d h, st, k => match Nat.beq i id with
  | true => match adoptE t E sz enc d st with
   | some st' => nS st' (fun st' => pre id h st' k)
   | none => False
  | false => k [] none (.gs i t E sz enc d h) st
 | .mv i j a h, st, k => match Nat.beq i id with
  | true => match wu j a st with
   | some st' => nS st' (fun st' => pre id h st' k)
   | none => False
  | false => k [] none (.mv i j a h) st
 | .s i P x y, st, k => match Nat.beq i id with
  | true => (P → pre id x st k) ∧ (¬P → pre id y st k)
  | false => k [] none (.s i P x y) st
 | h, st, k => k [] none h st
def Cz : Operand → Nat
 | .tmp t => t + 1
 | _ => 0
def qz (t : Nat) (b : Bool) (X Y : bx → Prop) : bx → Prop
 | @bx.c t' P i x y => match Nat.beq (t' + 1) t with
  | true => b = @decide P i ∧ (P → X x) ∧ (¬P → Y y)
  | false => match b with | true => X (@bx.c t' P i x y) | false => Y (@bx.c t' P i x y)
 | @bx.n t' P i x y => match Nat.beq (t' + 1) t with
  | true => b = (!@decide P i) ∧ (¬P → X x) ∧ (P → Y y)
  | false => match b with | true => X (@bx.n t' P i x y) | false => Y (@bx.n t' P i x y)
 | .b t' x y => match Nat.beq (t' + 1) t with
  | true => (b = true → X x) ∧ (b = false → Y y)
  | false => match b with | true => X (.b t' x y) | false => Y (.b t' x y)
 | .t t' x => match Nat.beq (t' + 1) t with
  | true => b = true ∧ X x
  | false => match b with | true => X (.t t' x) | false => Y (.t t' x)
 | .u t' x => match Nat.beq (t' + 1) t with
  | true => b = false ∧ Y x
  | false => match b with | true => X (.u t' x) | false => Y (.u t' x)
 | h => match b with | true => X h | false => Y h
def zX : Code → Option Nat
 | .region id _ _ => some id
 | .seq a _ => zX a
 | .block _ a => zX a
 | .loop a => zX a
 | _ => none
def CA (x : Code) : bx → Bool
 | .k id _ _ _ => match zX x with | some i => Nat.beq i id | none => false
 | _ => false
@[reducible] def kSeq (n : bx → St → Prop) (K : bx → Exit → St → Prop) (h : bx) (e : Exit) (st : St) : Prop := match e with
 | .normal => n h st
 | e => K h e st
@[reducible] def kBlock (id : Nat) (K : bx → Exit → St → Prop) (h : bx) (e : Exit) (st : St) : Prop := match e with
 | .exit i => match Nat.beq i id with | true => K h .normal st | false => K h (.exit i) st
 | e => K h e st
def zY (body : (bx → Exit → St → Prop) → bx → St → Prop) (K : bx → Exit → St → Prop) : Nat → bx → St → Prop
 | 0, _, _ => False
 | n + 1, h, st => body (fun h' e st' => match e with | .normal => zY body K n h' st' | e => K h' e st') h st
def vc (P : Program) (nt : Nat) : Code → (bx → Exit → St → Prop) → bx → St → Prop
 | .skip, K, h, st => K h .normal st
 | .label _, K, h, st => K h .normal st
 | .exit i, K, h, st => K h (.exit i) st
 | .ret, K, h, st => K h .ret st
 | .seq x y, K, h, st => match CA x h with
  | false => vc P nt x (kSeq (vc P nt y K) K) h st
  | true => match h with
   | .k _ L hx hy => vc P nt x (fun h' e st' => match e with | .normal => L.at (keepS L.keep L.n st') | e => K h' e st') hx st ∧ L.all (fun s => L.inv s → vc P nt y K (hy s) (L.mk s))
   | _ => False
 | .block i c, K, h, st => vc P nt c (kBlock i K) h st
 | .cond c x y, K, h, st => match ef st.env c with
  | .v (.bool b) => qz (Cz c) b (fun h => vc P nt x K h st) (fun h => vc P nt y K h st) h
  | _ => False
 | .loop c, K, h, st => match h with
  | .l L s0 hb => keepS L.keep L.n st = L.mk s0 ∧ L.inv s0 ∧ L.all (fun s => L.inv s → vc P nt c (fun h' e st' => match e with | .normal => L.ag s (keepS L.keep L.n st') | e => K h' e st') (hb s) (L.mk s))
  | .r n h => zY (fun K => vc P nt c K) K n h st
  | _ => False
 | .region id ops draw, K, h, st => pre id h st fun o t h st => match t with
  | some tab => match draw with
   | true => Bs P nt ops.toList o tab st (fun st => K h .normal st)
   | false => False
  | none => match draw with
   | false => rz P nt ops.toList o 0 ops.toList st (fun st => nS st (fun st => K h .normal st))
   | true => Br P nt ops.toList o (wF o [] 0 ops.toList) st (fun st => nS st (fun st => K h .normal st))
 | _, _, _, _ => False
section
variable {C : jk} {Q : Exit → St → Prop}
theorem Ev.regA {st st' : St} {id : Nat} {ops : List Oper} (ovs : List (Nat × Ov)) {p : Prop} (h : cU C.P C.nt ops ovs 0 ops st = (st', p)) (hp : p) (hq : Q .normal st') : Ev C (.region id ops.toArray false) Q st := fun a w S μ hR =>
 wpIn_region_lit (iA ops 0 st S μ a w p hR h hp (fun S' μ' a' w' hR' => ⟨_, S', μ', hq, hR'⟩))
theorem Bt {id : Nat} {c : Code} {k : List (Nat × Ov) → Option vD → bx → St → Prop} (hk : ∀ o t h st, k o t h st → Ev C c Q st) : ∀ (h : bx) (st : St), pre id h st k → Ev C c Q st := by
 intro h
 induction h with
 | w i o h ih => intro st hp; unfold pre at hp; split at hp <;> exact hk _ _ _ _ hp
 | y i o t h ih => intro st hp; unfold pre at hp; split at hp <;> exact hk _ _ _ _ hp
 | q i kp n h ih =>
  intro st hp; unfold pre at hp; split at hp
  ·rw [oW] at hp; exact Ev.keep kp n rfl (ih _ hp)
  ·exact hk _ _ _ _ hp
 | f i b h ih =>
  intro st hp; unfold pre at hp; split at hp
  ·split at hp
   ·rename_i st' hf; rw [oW] at hp; exact Ev.freeze b hf (ih _ hp)
   ·exact hp.elim
  ·exact hk _ _ _ _ hp
 | g i a j E sz enc d h ih =>
  intro st hp; unfold pre at hp; split at hp
  ·split at hp
   ·rename_i st' hf; rw [oW] at hp; exact Ev.adopt a j E sz enc d hf (ih _ hp)
   ·exact hp.elim
  ·exact hk _ _ _ _ hp
 | gs i t E sz enc d h ih =>
  intro st hp; unfold pre at hp; split at hp
  ·split at hp
   ·rename_i st' hf; rw [oW] at hp; exact Ev.adoptE t E sz enc d hf (ih _ hp)
   ·exact hp.elim
  ·exact hk _ _ _ _ hp
 | mv i j a h ih =>
  intro st hp; unfold pre at hp; split at hp
  ·split at hp
   ·rename_i st' hf; rw [oW] at hp; exact Ev.move j a hf (ih _ hp)
   ·exact hp.elim
  ·exact hk _ _ _ _ hp
 | s i P x y ih1 ih2 =>
  intro st hp; unfold pre at hp; split at hp
  ·by_cases hP : P
   ·exact ih1 _ (hp.1 hP)
   ·exact ih2 _ (hp.2 hP)
  ·exact hk _ _ _ _ hp
 | _ => intro st hp; unfold pre at hp; exact hk _ _ _ _ hp
theorem fJ {b : Bool} {X Y : bx → Prop} (h : bx) (hh : match b with | true => X h | false => Y h) : (b = true → ∃ h', X h') ∧ (b = false → ∃ h', Y h') := by
 cases b
 ·exact ⟨fun h => (by cases h), fun _ => ⟨_, hh⟩⟩
 ·exact ⟨fun _ => ⟨_, hh⟩, fun h => (by cases h)⟩
theorem yG {t : Nat} {b : Bool} {X Y : bx → Prop} {h : bx} (hc : qz t b X Y h) : (b = true → ∃ h', X h') ∧ (b = false → ∃ h', Y h') := by
 cases h with
 | c t' P x y =>
  simp only [qz] at hc; split at hc
  ·obtain ⟨h1, h2, h3⟩ := hc
   subst h1
   exact ⟨fun h => ⟨_, h2 (of_decide_eq_true h)⟩, fun h => ⟨_, h3 (of_decide_eq_false h)⟩⟩
  ·exact fJ _ hc
 | n t' P x y =>
  simp only [qz] at hc; split at hc
  ·obtain ⟨h1, h2, h3⟩ := hc
   subst h1
   exact ⟨fun h => ⟨_, h2 (by simpa using h)⟩, fun h => ⟨_, h3 (by simpa using h)⟩⟩
  ·exact fJ _ hc
 | b t' x y =>
  simp only [qz] at hc; split at hc
  ·exact ⟨fun h => ⟨_, hc.1 h⟩, fun h => ⟨_, hc.2 h⟩⟩
  ·exact fJ _ hc
 | t t' x =>
  simp only [qz] at hc; split at hc
  ·exact ⟨fun h => ⟨_, hc.2⟩, fun h => (by rw [hc.1] at h; cases h)⟩
  ·exact fJ _ hc
 | u t' x =>
  simp only [qz] at hc; split at hc
  ·exact ⟨fun h => (by rw [hc.1] at h; cases h), fun h => ⟨_, hc.2⟩⟩
  ·exact fJ _ hc
 | _ => exact fJ _ hc
theorem xC {id : Nat} {ops : Array Oper} {draw : Bool} {h : bx} {st : St} {K : bx → Exit → St → Prop} (hv : vc C.P C.nt (.region id ops draw) K h st) (hK : ∀ h st, K h .normal st → Q .normal st) : Ev C (.region id ops draw) Q st := by
 unfold vc at hv
 refine Bt ?_ h st hv
 intro o t h st hq
 have ha : ops = ops.toList.toArray := by simp
 cases t with
 | some tab =>
  cases draw with
  | false => exact hq.elim
  | true =>
   change Bs C.P C.nt ops.toList o tab st _ at hq
   unfold Bs at hq
   cases hb : C.P.follows .mixedOrders && ops.toList.all (fun o => !c7 o) with
   | false => rw [hb] at hq; exact hq.elim
   | true =>
   cases h0 : jv tab (List.replicate ops.toList.length false) with
   | none => rw [hb, h0] at hq; exact hq.elim
   | some st0 =>
   cases h1 : jv tab (List.replicate ops.toList.length true) with
   | none => rw [hb, h0, h1] at hq; exact hq.elim
   | some st1 =>
   rw [hb, h0, h1] at hq
   simp only [Bool.and_eq_true] at hb
   obtain ⟨q1, q2, q3⟩ := hq
   rw [oW] at q3
   rw [ha]
   exact Ev.any (st' := st1) o tab hb.1 hb.2 h0 q1 h1 rfl q2 (hK _ _ q3)
 | none =>
  cases draw with
  | false =>
   obtain ⟨h1, h2⟩ := pJ _ _ _ _ hq
   rw [oW] at h2
   rw [ha]
   exact Ev.regA o rfl h1 (hK _ _ h2)
  | true =>
   rw [ha]
   refine Ev.dw o (wF o [] 0 ops.toList) ?_
   have hq' : Br C.P C.nt ops.toList o (wF o [] 0 ops.toList) st (fun st => nS st (fun st => K h .normal st)) := by simpa using hq
   exact yD hq' (fun st1 h1 => hK _ _ (by rwa [oW] at h1))
theorem qA {c : Code} (ih : ∀ (K : bx → Exit → St → Prop) (h : bx) (st : St), vc C.P C.nt c K h st → Ev C c (fun e st => ∃ h', K h' e st) st) (K : bx → Exit → St → Prop) : ∀ (n : Nat) (h : bx) (st : St) (S : Nat → Prop) (μ : Nat → Value) (a : Act) (w : World), aX C S μ st a w →
  zY (fun K => vc C.P C.nt c K) K n h st → Code.roundsIn (jc C.rd) 0 C.P c (fun e a' w' => ∃ st' S' μ', (∃ h', K h' e st') ∧ aX C S' μ' st' a' w') n a w
 | 0, h, st, S, μ, a, w, hR, hv => hv.elim
 | n + 1, h, st, S, μ, a, w, hR, hv => by
  rw [roundsIn_succ]
  refine wpIn_mono (ih _ _ _ hv a w S μ hR) ?_
  rintro e a' w' ⟨st', S', μ', ⟨h', hq⟩, hR'⟩
  cases e with
  | normal => exact qA ih K n h' st' S' μ' a' w' hR' hq
  | exit i => exact ⟨st', S', μ', ⟨h', hq⟩, hR'⟩
  | goto l => exact ⟨st', S', μ', ⟨h', hq⟩, hR'⟩
  | ret => exact ⟨st', S', μ', ⟨h', hq⟩, hR'⟩
  | panic ch => exact ⟨st', S', μ', ⟨h', hq⟩, hR'⟩
  | outgrown => exact ⟨st', S', μ', ⟨h', hq⟩, hR'⟩
theorem xD {c : Code} (ih : ∀ (K : bx → Exit → St → Prop) (h : bx) (st : St), vc C.P C.nt c K h st → Ev C c (fun e st => ∃ h', K h' e st) st) (K : bx → Exit → St → Prop) (n : Nat) (h : bx) (st : St) (hv : zY (fun K => vc C.P C.nt c K) K n h st) : Ev C (.loop c) (fun e st => ∃ h', K h' e st) st :=
 fun a w S μ hR => wpIn_loop_rounds n (qA ih K n h st S μ a w hR hv)
theorem qB : ∀ (c : Code) (K : bx → Exit → St → Prop) (h : bx) (st : St), vc C.P C.nt c K h st → Ev C c (fun e st => ∃ h', K h' e st) st := by
 intro c
 induction c with
 | skip => intro K h st hv; exact Ev.skip ⟨h, hv⟩
 | label l => intro K h st hv; exact Ev.label ⟨h, hv⟩
 | exit i => intro K h st hv; exact Ev.exit ⟨h, hv⟩
 | ret => intro K h st hv; exact Ev.ret ⟨h, hv⟩
 | region id ops draw => intro K h st hv; exact xC hv (fun h st hk => ⟨h, hk⟩)
 | seq x y ihx ihy =>
  intro K h st hv
  unfold vc at hv
  split at hv
  ·refine Ev.seq ((ihx _ _ _ hv).mono ?_)
   rintro e st' ⟨h', hq⟩
   cases e with
   | normal => exact ihy _ _ _ hq
   | exit i => exact ⟨h', hq⟩
   | goto l => exact ⟨h', hq⟩
   | ret => exact ⟨h', hq⟩
   | panic ch => exact ⟨h', hq⟩
   | outgrown => exact ⟨h', hq⟩
  ·cases h with
   | k id L hx hy =>
    obtain ⟨h1, h2⟩ := hv
    refine Ev.cut L.keep L.n L.mk L.inv ((ihx _ _ _ h1).mono ?_) (fun s hs => ihy _ _ _ (L.hall _ h2 s hs))
    rintro e st' ⟨h', hq⟩
    cases e with
    | normal => exact hq
    | exit i => exact ⟨h', hq⟩
    | goto l => exact ⟨h', hq⟩
    | ret => exact ⟨h', hq⟩
    | panic ch => exact ⟨h', hq⟩
    | outgrown => exact ⟨h', hq⟩
   | _ => exact hv.elim
 | cond c x y ihx ihy =>
  intro K h st hv
  unfold vc at hv
  split at hv
  ·rename_i b hb
   obtain ⟨h1, h2⟩ := yG hv
   exact Ev.cond b hb (fun hb => by obtain ⟨h', q⟩ := h1 hb; exact ihx _ _ _ q) (fun hb => by obtain ⟨h', q⟩ := h2 hb; exact ihy _ _ _ q)
  ·exact hv.elim
 | block i c ih =>
  intro K h st hv
  unfold vc at hv
  refine Ev.block ((ih _ _ _ hv).mono ?_)
  rintro e st' ⟨h', hq⟩
  cases e with
  | exit j =>
   show (if Nat.beq j i = true then _ else _)
   change (match Nat.beq j i with | true => K h' .normal st' | false => K h' (.exit j) st') at hq
   by_cases hj : Nat.beq j i = true
   ·rw [hj] at hq; rw [if_pos hj]; exact ⟨h', hq⟩
   ·rw [if_neg hj]
    simp only [Bool.not_eq_true] at hj
    rw [hj] at hq
    exact ⟨h', hq⟩
  | normal => exact ⟨h', hq⟩
  | goto l => exact ⟨h', hq⟩
  | ret => exact ⟨h', hq⟩
  | panic ch => exact ⟨h', hq⟩
  | outgrown => exact ⟨h', hq⟩
 | loop c ih =>
  intro K h st hv
  unfold vc at hv
  split at hv
  ·rename_i σ L s0 hb
   obtain ⟨h1, h2, h3⟩ := hv
   refine Ev.loop L.keep L.n L.mk L.inv L.m s0 h1 h2 ?_
   intro s hs
   refine (ih _ _ _ (L.hall _ h3 s hs)).mono ?_
   rintro e st' ⟨h', hq⟩
   cases e with
   | normal => exact hq
   | exit i => exact ⟨h', hq⟩
   | goto l => exact ⟨h', hq⟩
   | ret => exact ⟨h', hq⟩
   | panic ch => exact ⟨h', hq⟩
   | outgrown => exact ⟨h', hq⟩
  ·exact xD ih K _ _ _ hv
  ·exact hv.elim
 | _ => intro K h st hv; exact (by unfold vc at hv; exact hv.elim)
end
def ti (P : Program) (st : St) : List ResultVar → (List D → Prop) → Prop
 | [], k => k []
 | r :: rs, k => match xu P st r with
  | (d, p) => p ∧ ti P st rs (fun ds => k (d :: ds))
theorem tj {P : Program} {st : St} : ∀ (rs : List ResultVar) (k : List D → Prop), ti P st rs k → (resL P st rs).2 ∧ k (resL P st rs).1
 | [], k, h => ⟨trivial, h⟩
 | r :: rs, k, h => by
  unfold ti at h
  unfold resL
  generalize hq : xu P st r = q at h
  obtain ⟨d, p⟩ := q
  obtain ⟨h1, h2⟩ := h
  obtain ⟨h3, h4⟩ := tj rs _ h2
  exact ⟨⟨h1, h3⟩, h4⟩
def CE (H : List ar) : D → D → Prop
 | .tup xs, .tup ys => Ci H xs ys
 | x, y => AY H x y
def Dg : D → D → Prop
 | .tup xs, .tup ys => Df xs ys
 | x, y => Bi x y
def Bu : List D → D
 | [d] => d
 | ds => .tup ds
def Bv (al : Bool) (H : List ar) (x r : D) : Prop := match al with
 | true => CE H x r
 | false => CE H x r ∧ Dg x r
def Bw (P : Program) (fn : Func) (al : Bool) (r : D) (_ : bx) (e : Exit) (st : St) : Prop := match e with
 | .normal => ti P st fn.results.toList (fun ds => Bv al st.heap (Bu ds) r)
 | .ret => ti P st fn.results.toList (fun ds => Bv al st.heap (Bu ds) r)
 | _ => False
theorem wG {P : Program} {st : St} {rs : List ResultVar} : xv P rs st = (Bu (resL P st rs).1, (resL P st rs).2) := by
 unfold xv
 generalize resL P st rs = q
 obtain ⟨ds, p⟩ := q
 match ds with
 | [] => rfl
 | [d] => rfl
 | d :: e :: r => rfl
theorem wH {al : Bool} {H : List ar} {x r : D} (h1 : CE H x r) (h2 : al = true ∨ Dg x r) : tc al H x r := by
 unfold tc
 split
 ·exact ⟨h1, h2⟩
 ·rename_i hne
  have e1 : CE H x r = AY H x r := by
   unfold CE; split
   ·exact (hne _ _ rfl rfl).elim
   ·rfl
  have e2 : Dg x r = Bi x r := by
   unfold Dg; split
   ·exact (hne _ _ rfl rfl).elim
   ·rfl
  rw [e1] at h1; rw [e2] at h2
  exact ⟨h1, h2⟩
theorem wI {P : Program} {fn : Func} {al : Bool} {r : D} {h : bx} {e : Exit} {st : St} (hk : Bw P fn al r h e st) : Bj P fn al r e st := by
 have key : ti P st fn.results.toList (fun ds => Bv al st.heap (Bu ds) r) → hE P fn st ∧ tc al st.heap (kR P fn st) r := by
  intro hq
  obtain ⟨h1, h2⟩ := tj _ _ hq
  unfold hE kR
  rw [wG]
  refine ⟨h1, ?_⟩
  cases al
  ·exact wH h2.1 (.inr h2.2)
  ·exact wH h2 (.inl rfl)
 cases e with
 | normal => exact key hk
 | ret => exact key hk
 | exit i => exact hk.elim
 | goto l => exact hk.elim
 | panic ch => exact hk.elim
 | outgrown => exact hk.elim
theorem ak.vc {P : Program} {f : FuncId} {fn : Func} {c : Code} {as : List D} {al : Bool} {r : D} {V : Prop} (hint : bx) (hf : P.funcs[f]? = some fn) (hb : fn.body = some c) (hn : Nat.ble as.length fn.ntmps = true) (hr : dg r = true)
  (hv : Proofs.Ytgfbfajaaaegjaa.vc P fn.ntmps c (Bw P fn al r) hint ⟨gq 0 as, []⟩ = V) (pf : V) : ak P f as [] al r [] := by
 refine ak.of_ev hf hb hn hr ?_
 intro C h1 h2 _
 subst h1
 rw [← hv, ← h2] at pf
 exact (qB c _ hint _ pf).mono (fun e st' ⟨h', hk⟩ => wI hk)
theorem ak.vcR {P : Program} {f : FuncId} {fn : Func} {c : Code} {as : List D} {r : D} {B : ar} {V : Prop} (hint : bx) (hf : P.funcs[f]? = some fn) (hb : fn.body = some c) (hn : Nat.ble as.length fn.ntmps = true) (hr : dg r = true) (hB : B.isRo = true)
  (hv : Proofs.Ytgfbfajaaaegjaa.vc P fn.ntmps c (Bw P fn true r) hint ⟨gq 0 as, [B]⟩ = V) (pf : V) : ak P f as [B] true r [] := by
 refine ak.of_evR hf hb hn hr hB ?_
 intro C h1 h2 _
 subst h1
 rw [← hv, ← h2] at pf
 exact (qB c _ hint _ pf).mono (fun e st' ⟨h', hk⟩ => wI hk)
def CF (P : Program) (fn : Func) (r : D) (H : List ar) (_ : bx) (e : Exit) (st : St) : Prop := match e with
 | .normal => ti P st fn.results.toList (fun ds => sW (Bu ds) r ∧ st.heap.take H.length = H)
 | .ret => ti P st fn.results.toList (fun ds => sW (Bu ds) r ∧ st.heap.take H.length = H)
 | _ => False
theorem zZ {P : Program} {fn : Func} {r : D} {H : List ar} {h : bx} {e : Exit} {st : St} (hk : CF P fn r H h e st) : Cn P fn r H e st := by
 have key : ti P st fn.results.toList (fun ds => sW (Bu ds) r ∧ st.heap.take H.length = H) → hE P fn st ∧ sW (kR P fn st) r ∧ st.heap.take H.length = H := by
  intro hq
  obtain ⟨h1, h2⟩ := tj _ _ hq
  unfold hE kR
  rw [wG]
  exact ⟨h1, h2⟩
 cases e with
 | normal => exact key hk
 | ret => exact key hk
 | exit i => exact hk.elim
 | goto l => exact hk.elim
 | panic ch => exact hk.elim
 | outgrown => exact hk.elim
theorem hU.vc {P : Program} {f : FuncId} {fn : Func} {c : Code} {ds : List D} {H H' : List ar} {r : D} {V : Prop} (hint : bx) (hf : P.funcs[f]? = some fn) (hb : fn.body = some c) (hn : Nat.ble ds.length fn.ntmps = true)
  (hv : Proofs.Ytgfbfajaaaegjaa.vc P fn.ntmps c (CF P fn r H') hint ⟨gq 0 ds, H⟩ = V) (pf : V) : hU P f ds H r H' := by
 refine ⟨fn, c, hf, hb, hn, ?_⟩
 intro C h1 h2 _
 subst h1
 rw [← hv, ← h2] at pf
 exact (qB c _ hint _ pf).mono (fun e st' ⟨h', hk⟩ => zZ hk)
abbrev Ds (P : Program) (g : FuncId) (ds : List D) (H : List ar) (E : List (Nat × D)) (H' : List ar) (E' : List (Nat × D)) (N : List ar) (r : D) : Prop := ∀ tm : Array Value, hU P g ds (H ++ [.frame tm E]) r (H' ++ .frame tm E' :: N)
abbrev yH (P : Program) (g : FuncId) (ds : List D) (H : List ar) (E : List (Nat × D)) (H' N : List ar) (r : D) : Prop := ∀ tm : Array Value, hU P g ds (H ++ [.frame tm E]) r (H' ++ .frame tm E :: N)
def TT : Nat → Prop → Prop
 | 0, p => p
 | n + 1, p => True ∧ TT n p
theorem tt : ∀ {n : Nat} {p : Prop}, p → TT n p
 | 0, _, h => h
 | n + 1, _, h => ⟨trivial, tt h⟩
abbrev CB (b : Bool) (x y : Prop) : Prop := (b = true → x) ∧ (b = false → y)
abbrev CD (P : Prop) [Decidable P] (x y : Prop) : Prop := CB (decide P) x y
abbrev CN (P : Prop) [Decidable P] (x y : Prop) : Prop := CB (!decide P) x y
abbrev CS (P x y : Prop) : Prop := (P → x) ∧ (¬P → y)
theorem cd {P : Prop} [Decidable P] {x y : Prop} (h1 : P → x) (h2 : ¬P → y) : CD P x y := ⟨fun h => h1 (of_decide_eq_true h), fun h => h2 (of_decide_eq_false h)⟩
theorem cn {P : Prop} [Decidable P] {x y : Prop} (h1 : ¬P → x) (h2 : P → y) : CN P x y := ⟨fun h => h1 (by simpa using h), fun h => h2 (by simpa using h)⟩
abbrev GO {σ : Type} (L : Lp σ) (s0 : σ) (body : Prop) : Prop := L.mk s0 = L.mk s0 ∧ L.inv s0 ∧ body
abbrev AG {σ : Type} (L : Lp σ) (s s' : σ) : Prop := L.ag s (L.mk s')
abbrev AT {σ : Type} (L : Lp σ) (s' : σ) : Prop := L.at (L.mk s')
theorem vT {P : Prop} [Decidable P] (h : P) : True ∧ decide P = true := ⟨trivial, decide_eq_true h⟩
theorem vF {P : Prop} [Decidable P] (h : ¬P) : True ∧ decide P = false := ⟨trivial, decide_eq_false h⟩
theorem DV {P : Prop} [Decidable P] (h : ¬P) : (!decide P) = true := by simp [h]
theorem CG {P : Prop} [Decidable P] (h : P) : (!decide P) = false := by simp [h]
theorem nT {P : Prop} [Decidable P] (h : ¬P) : True ∧ (!decide P) = true := ⟨trivial, DV h⟩
theorem nF {P : Prop} [Decidable P] (h : P) : True ∧ (!decide P) = false := ⟨trivial, CG h⟩
theorem Dt {b : Bool} (h : b = true) : b = true := h
theorem DW {b : Bool} (h : ¬b = true) : b = false := by simpa using h
theorem Du {b : Bool} (h : ¬b = true) : (!b) = true := by simpa using h
theorem z5 {b : Bool} (h : b = true) : (!b) = false := by simp [h]
theorem bT {b : Bool} (h : b = true) : True ∧ b = true := ⟨trivial, h⟩
theorem bF {b : Bool} (h : ¬b = true) : True ∧ b = false := ⟨trivial, DW h⟩
theorem mT {b : Bool} (h : ¬b = true) : True ∧ (!b) = true := ⟨trivial, Du h⟩
theorem mF {b : Bool} (h : b = true) : True ∧ (!b) = false := ⟨trivial, z5 h⟩
abbrev HE (H : List ar) : Prop := H = H
abbrev IX (i n : Int) : Prop := 0 ≤ i ∧ i < n
theorem ix {i n : Int} (h : 0 ≤ i ∧ i < n := by first | omega | (simp; omega)) : IX i n := h
theorem om {p : Prop} (h : p := by first | omega | (simp; first | done | omega)) : p := h
abbrev W6 (x : Int) : Prop := True ∧ IntKind.i64.wrap x = x
theorem w6 {x : Int} (h1 : -9223372036854775808 ≤ x := by first | omega | (simp; first | done | omega)) (h2 : x ≤ 9223372036854775807 := by first | omega | (simp; first | done | omega)) : W6 x := ⟨trivial, zD rfl h1 h2⟩
abbrev QD (a n : Int) : Prop := n ≠ 0 ∧ IntKind.i64.wrap (Int.tdiv a n) = a / n
theorem qd {a n : Int} (h0 : 0 ≤ a := by first | omega | (simp; omega)) (h1 : a ≤ 9223372036854775807 := by first | omega | (simp; omega)) (hn : 0 < n := by first | omega | (simp; omega)) : QD a n := by
 refine ⟨by omega, ?_⟩
 rw [Int.tdiv_eq_ediv_of_nonneg h0, IntKind.wrap_i64]
 have := Int.ediv_nonneg h0 (Int.le_of_lt hn)
 have := Int.ediv_le_self n h0
 omega
abbrev QM (a n : Int) : Prop := n ≠ 0 ∧ Int.tmod a n = a % n
theorem qm {a n : Int} (h0 : 0 ≤ a := by first | omega | (simp; omega)) (hn : 0 < n := by first | omega | (simp; omega)) : QM a n := ⟨by omega, Int.tmod_eq_emod_of_nonneg h0⟩
theorem ak.recast {P : Program} {f : FuncId} {as as' : List D} {al : Bool} {r : D} (h : rh [] as as') (hc : ak P f as' [] al r []) : ak P f as [] al r [] := fun S μ w us hS hH hus =>
 hc S μ w us hS hH (j5 hH (fun _ h => h) hS (.inl fun i A b hA => by simp at hA) h hus)
structure Ct : Type 1 where
 f : FuncId
 as : List D
 al : Bool
 r : D
abbrev Ct.O (c : Ct) : Ov := .call none c.al c.r
abbrev Ct.O' (c : Ct) : Ov := .call (some c.as) c.al c.r
abbrev Ct.C (P : Program) (c : Ct) : Prop := ak P c.f c.as [] c.al c.r []
abbrev Ct.K (P : Program) (c : Ct) : Prop := rh [] c.as c.as ∧ ak P c.f c.as [] c.al c.r []
structure Dh : Type 1 where
 f : FuncId
 as : List D
 r : D
 B : ar
abbrev Dh.O (c : Dh) : Ov := .ownd none c.r c.B
abbrev Dh.O' (c : Dh) : Ov := .ownd (some c.as) c.r c.B
structure Di : Type 1 where
 f : FuncId
 as : List D
 r : D
 B : ar
mutual
def jw : D → Bool
 | .v (.mp _) => false
 | .agg cs => ex cs
 | .tup cs => ex cs
 | .fn _ a b => ex a && ex b
 | _ => true
def ex : List D → Bool
 | [] => true
 | d :: r => jw d && ex r
end
theorem yI : ∀ (x : V), (∀ es, x ≠ .mp es) → AW x x
 | .int k n, _ => by simp [AW]
 | .bool b, _ => rfl
 | .str s, _ => rfl
 | .nilf, _ => trivial
 | .nsl, _ => trivial
 | .esl, _ => trivial
 | .sl sz enc d l, _ => by simp [AW]
 | .mp es, h => (h es rfl).elim
theorem yJ : ∀ (x : D), jw x = true → zJ x x
 | .v x, h => yI x (fun es e => by subst e; simp [jw] at h)
 | .nils, _ => rfl
 | .own i, _ => rfl
 | .ptr _ _ _ _, _ => rfl
 | .iptr cs o, _ => by simp [zJ]
 | .agg _, _ => rfl
 | .tup _, _ => rfl
 | .fn _ _ _, _ => rfl
 | .yld _, _ => rfl
 | .capd _, _ => rfl
 | .junk, _ => trivial
theorem uE (x : D) (h : jw x = true) : zK [] x x := by
 cases x <;> exact yJ _ h
theorem uF : ∀ (l : List D), ex l = true → Ch [] l l
 | [], _ => trivial
 | d :: r, h => by simp only [ex, Bool.and_eq_true] at h; exact ⟨uE d h.1, uF r h.2⟩
theorem uG (x : D) (h : jw x = true) : B6 [] x x := by
 cases x <;> exact uE _ h
theorem qC : ∀ (l : List D), ex l = true → Cj [] l l
 | [], _ => trivial
 | d :: r, h => by simp only [ex, Bool.and_eq_true] at h; exact ⟨uG d h.1, qC r h.2⟩
theorem qD (x : D) (h : jw x = true) : De [] x x := by
 cases x with
 | agg xs => exact uF _ (by simpa [jw] using h)
 | fn f a b => simp only [jw, Bool.and_eq_true] at h; exact ⟨rfl, qC a h.1, qC b h.2⟩
 | _ => exact uG _ h
theorem b7 : ∀ (l : List D), ex l = true → rh [] l l
 | [], _ => trivial
 | d :: r, h => by simp only [ex, Bool.and_eq_true] at h; exact ⟨qD d h.1, b7 r h.2⟩
end Go.Proofs.Ytgfbfajaaaegjaa
