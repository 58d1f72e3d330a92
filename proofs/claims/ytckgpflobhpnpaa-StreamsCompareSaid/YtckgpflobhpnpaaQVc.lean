/-
  What is owed of a function's code, computed: one condition for all its ways. Generic: over any program.
-/
import Derived.Test.YtckgpflobhpnpaaQGr
import Derived.LoopNIn
namespace Go.Proofs.Ytckgpflobhpnpaa
open Go.RowKit
set_option linter.unusedVariables false
set_option linter.unusedSimpArgs false
structure Lp (σ : Type) : Type 1 where
 make ::
 keep : List Nat
 n : Nat
 all : (σ → Prop) → Prop
 hall : ∀ P, all P → ∀ s, P s
 mk : σ → St
 inv : σ → Prop
 m : σ → Nat
abbrev pT {α : Type} (keep : List Nat) (n : Nat) (mk : α → St) (inv : α → Prop) (m : α → Nat) : Lp α := ⟨keep, n, fun P => ∀ a, P a, fun _ h => h, mk, inv, m⟩
abbrev zW {α β : Type} (keep : List Nat) (n : Nat) (mk : α → β → St) (inv : α → β → Prop) (m : α → β → Nat) : Lp (α × β) :=
 ⟨keep, n, fun P => ∀ a b, P (a, b), fun _ h ⟨a, b⟩ => h a b, fun | (a, b) => mk a b, fun | (a, b) => inv a b, fun | (a, b) => m a b⟩
abbrev I6 {α β γ : Type} (keep : List Nat) (n : Nat) (mk : α → β → γ → St) (inv : α → β → γ → Prop) (m : α → β → γ → Nat) : Lp (α × β × γ) :=
 ⟨keep, n, fun P => ∀ a b c, P (a, b, c), fun _ h ⟨a, b, c⟩ => h a b c, fun | (a, b, c) => mk a b c, fun | (a, b, c) => inv a b c, fun | (a, b, c) => m a b c⟩
abbrev J3 {α β γ δ : Type} (keep : List Nat) (n : Nat) (mk : α → β → γ → δ → St) (inv : α → β → γ → δ → Prop) (m : α → β → γ → δ → Nat) : Lp (α × β × γ × δ) :=
 ⟨keep, n, fun P => ∀ a b c d, P (a, b, c, d), fun _ h ⟨a, b, c, d⟩ => h a b c d, fun | (a, b, c, d) => mk a b c d, fun | (a, b, c, d) => inv a b c d, fun | (a, b, c, d) => m a b c d⟩
abbrev J4 {α β γ δ ε : Type} (keep : List Nat) (n : Nat) (mk : α → β → γ → δ → ε → St) (inv : α → β → γ → δ → ε → Prop) (m : α → β → γ → δ → ε → Nat) : Lp (α × β × γ × δ × ε) :=
 ⟨keep, n, fun P => ∀ a b c d e, P (a, b, c, d, e), fun _ h ⟨a, b, c, d, e⟩ => h a b c d e, fun | (a, b, c, d, e) => mk a b c d e, fun | (a, b, c, d, e) => inv a b c d e, fun | (a, b, c, d, e) => m a b c d e⟩
def Lp.ag {σ : Type} (L : Lp σ) (s : σ) (st : St) : Prop := ∃ s', st = L.mk s' ∧ L.inv s' ∧ L.m s' < L.m s
def Lp.at {σ : Type} (L : Lp σ) (st : St) : Prop := ∃ s', st = L.mk s' ∧ L.inv s'
inductive bf : Type 1
 | e
 | w (id : Nat) (o : List (Nat × Ov)) (h : bf)
 | q (id : Nat) (keep : List Nat) (n : Nat) (h : bf)
 | f (id b : Nat) (h : bf)
 | g (id i j E sz : Nat) {α : Type} (enc : α → List V) (d : α) (h : bf)
 | gs (id t E sz : Nat) {α : Type} (enc : α → List V) (d : α) (h : bf)
 | mv (id j i : Nat) (h : bf)
 | s (id : Nat) (P : Prop) (x y : bf)
 | y (id : Nat) (o : List (Nat × Ov)) (tab : ts) (h : bf)
 | c (t : Nat) (P : Prop) [i : Decidable P] (x y : bf)
 | n (t : Nat) (P : Prop) [i : Decidable P] (x y : bf)
 | b (t : Nat) (x y : bf)
 | t (t : Nat) (x : bf)
 | u (t : Nat) (x : bf)
 | l {σ : Type} (L : Lp σ) (s0 : σ) (h : σ → bf)
 | r (n : Nat) (h : bf)
 | k (id : Nat) {σ : Type} (L : Lp σ) (x : bf) (h : σ → bf)
 | rg (e : Exit) (st : St) (h : bf)
 | gh (id : Nat) (F : Cq) (h : bf)
def HX (o : Oper) : Bool := match o.op with
 | .store _ _ _ => true
 | .call ⟨.builtin .append, _, _⟩ => true
 | .call ⟨.builtin .copy, _, _⟩ => true
 | _ => false
def HY : Ov → Bool
 | .inl _ _ _ => true
 | .inls _ => true
 | .yld _ _ _ => true
 | _ => false
def HZ : Ov → Bool
 | .app _ _ _ _ _ _ => true
 | _ => false
def H0 : Ov → Bool
 | .val .junk => true
 | _ => false
def sM (ovs : List (Nat × Ov)) : List Nat → Nat → List Oper → Nat
 | _, _, [] => 0
 | rd, i, o :: r => if (HX o && !(HZ (mR ovs i) || H0 (mR ovs i))) || HY (mR ovs i) || (match o.dst with | some t => rd.any (fun s => Nat.beq t s) | none => false) then 0 else sM ovs (Cb o.op ++ rd) (i + 1) r + 1
def EM (P : Program) (nt : Nat) (ops : List Oper) (ovs : List (Nat × Ov)) (tab : ts) (st : St) (k : St → Prop) : Prop :=
 match P.follows .mixedOrders && ops.all (fun o => !co o), ez tab (List.replicate ops.length false), ez tab (List.replicate ops.length true) with
 | true, some st0, some st1 => sy st st0 = st0 ∧ A5 P nt ops ovs tab tab ∧ nS st1 k
 | _, _, _ => False
def uw (id : Nat) : bf → St → (List (Nat × Ov) → Option ts → bf → St → Prop) → Prop
 | .w i o h, st, k => match Nat.beq i id with
  | true => k o none h st
  | false => k [] none (.w i o h) st
 | .y i o t h, st, k => match Nat.beq i id with
  | true => k o (some t) h st
  | false => k [] none (.y i o t h) st
 | .q i kp n h, st, k => match Nat.beq i id with
  | true => nS (keepS kp n st) (fun st' => uw id h st' k)
  | false => k [] none (.q i kp n h) st
 | .f i b h, st, k => match Nat.beq i id with
  | true => match l3 b st with
   | some st' => nS st' (fun st' => uw id h st' k)
   | none => False
  | false => k [] none (.f i b h) st
 | .g i a j E sz enc d h, st, k => match Nat.beq i id with
  | true => match yl a j E sz enc d st with
   | some st' => nS st' (fun st' => uw id h st' k)
   | none => False
  | false => k [] none (.g i a j E sz enc d h) st
 | .gs i t E sz enc d h, st, k => match Nat.beq i id with
  | true => match adoptE t E sz enc d st with
   | some st' => nS st' (fun st' => uw id h st' k)
   | none => False
  | false => k [] none (.gs i t E sz enc d h) st
 | .mv i j a h, st, k => match Nat.beq i id with
  | true => match zG j a st with
   | some st' => nS st' (fun st' => uw id h st' k)
   | none => False
  | false => k [] none (.mv i j a h) st
 | .gh i F h, st, k => match Nat.beq i id with
  | true => (F.F st).2 ∧ nS (F.F st).1 (fun st' => uw id h st' k)
  | false => k [] none (.gh i F h) st
 | .s i P x y, st, k => match Nat.beq i id with
  | true => (P → uw id x st k) ∧ (¬P → uw id y st k)
  | false => k [] none (.s i P x y) st
 | h, st, k => k [] none h st
def H2 : Operand → Nat
 | .tmp t => t + 1
 | _ => 0
def sN (t : Nat) (b : Bool) (X Y : bf → Prop) : bf → Prop
 | @bf.c t' P i x y => match Nat.beq (t' + 1) t with
  | true => b = @decide P i ∧ (P → X x) ∧ (¬P → Y y)
  | false => match b with | true => X (@bf.c t' P i x y) | false => Y (@bf.c t' P i x y)
 | @bf.n t' P i x y => match Nat.beq (t' + 1) t with
  | true => b = (!@decide P i) ∧ (¬P → X x) ∧ (P → Y y)
  | false => match b with | true => X (@bf.n t' P i x y) | false => Y (@bf.n t' P i x y)
 | .b t' x y => match Nat.beq (t' + 1) t with
  | true => (b = true → X x) ∧ (b = false → Y y)
  | false => match b with | true => X (.b t' x y) | false => Y (.b t' x y)
 | .t t' x => match Nat.beq (t' + 1) t with
  | true => b = true ∧ X x
  | false => match b with | true => X (.t t' x) | false => Y (.t t' x)
 | .u t' x => match Nat.beq (t' + 1) t with
  | true => b = false ∧ Y x
  | false => match b with | true => X (.u t' x) | false => Y (.u t' x)
 | h => match b with | true => X h | false => Y h
def CA : Code → Option Nat
 | .region id _ _ => some id
 | .seq a _ => CA a
 | .block _ a => CA a
 | .loop a => CA a
 | .cond _ a _ => CA a
 | _ => none
def H3 (x : Code) : bf → Bool
 | .k id _ _ _ => match CA x with | some i => Nat.beq i id | none => false
 | _ => false
@[reducible] def kSeq (n : bf → St → Prop) (K : bf → Exit → St → Prop) (h : bf) (e : Exit) (st : St) : Prop := match e with
 | .normal => n h st
 | e => K h e st
@[reducible] def kBlock (id : Nat) (K : bf → Exit → St → Prop) (h : bf) (e : Exit) (st : St) : Prop := match e with
 | .exit i => match Nat.beq i id with | true => K h .normal st | false => K h (.exit i) st
 | e => K h e st
def EN (body : (bf → Exit → St → Prop) → bf → St → Prop) (K : bf → Exit → St → Prop) : Nat → bf → St → Prop
 | 0, _, _ => False
 | n + 1, h, st => body (fun h' e st' => match e with | .normal => EN body K n h' st' | e => K h' e st') h st
def o2 (P : Program) (nt : Nat) (c : Code) (st : St) (e : Exit) (st' : St) : Prop := ∀ C : kx, C.P = P → C.nt = nt → C.rd = none → Ev C c (fun e1 st1 => e1 = e ∧ st1 = st') st
def EO : Code → Bool
 | .seq a b => EO a && EO b
 | .cond _ a b => EO a && EO b
 | .block _ a => EO a
 | .loop a => EO a
 | .rangeFunc _ _ _ _ => false
 | _ => true
def vc (P : Program) (nt : Nat) : Code → (bf → Exit → St → Prop) → bf → St → Prop
 | .skip, K, h, st => K h .normal st
 | .label _, K, h, st => K h .normal st
 | .exit i, K, h, st => K h (.exit i) st
 | .ret, K, h, st => K h .ret st
 | .seq x y, K, h, st => match H3 x h with
  | false => vc P nt x (kSeq (vc P nt y K) K) h st
  | true => match h with
   | .k _ L hx hy => vc P nt x (fun h' e st' => match e with | .normal => L.at (keepS L.keep L.n st') | e => K h' e st') hx st ∧ L.all (fun s => L.inv s → vc P nt y K (hy s) (L.mk s))
   | _ => False
 | .block i c, K, h, st => vc P nt c (kBlock i K) h st
 | .cond c x y, K, h, st => match dZ st.env c with
  | .v (.bool b) => sN (H2 c) b (fun h => vc P nt x K h st) (fun h => vc P nt y K h st) h
  | _ => False
 | .loop c, K, h, st => match h with
  | .l L s0 hb => keepS L.keep L.n st = L.mk s0 ∧ L.inv s0 ∧ L.all (fun s => L.inv s → vc P nt c (fun h' e st' => match e with | .normal => L.ag s (keepS L.keep L.n st') | e => K h' e st') (hb s) (L.mk s))
  | .r n h => EN (fun K => vc P nt c K) K n h st
  | _ => False
 | .region id ops draw, K, h, st => uw id h st fun o t h st => match t with
  | some tab => match draw with
   | true => match ez tab (List.replicate ops.toList.length false) with
    | some _ => EM P nt ops.toList o tab st (fun st => K h .normal st)
    | none => xe P nt ops.toList o (sM o [] 0 ops.toList) tab st (fun st => K h .normal st)
   | false => False
  | none => match draw with
   | false => vE P nt ops.toList o 0 ops.toList st (fun st => nS st (fun st => K h .normal st))
   | true => Gv P nt ops.toList o (sM o [] 0 ops.toList) st (fun st => nS st (fun st => K h .normal st))
 | .rangeFunc g ps asg bd, K, h, st => match h with
  | .rg e st' h' => o2 P nt (.rangeFunc g ps asg bd) st e st' ∧ K h' e st'
  | _ => False
 | _, _, _, _ => False
section
variable {C : kx} {Q : Exit → St → Prop}
theorem Ev.regA {st st' : St} {id : Nat} {ops : List Oper} (ovs : List (Nat × Ov)) {p : Prop} (h : cH C.P C.nt ops ovs 0 ops st = (st', p)) (hp : p) (hq : Q .normal st') : Ev C (.region id ops.toArray false) Q st := fun a w S μ hR =>
 wpIn_region_lit (oX ops 0 st S μ a w p hR h hp (fun S' μ' a' w' hR' => ⟨_, S', μ', hq, hR'⟩))
theorem Ev.gh {c : Code} {st st' : St} (h : Gh st st') (he : Ev C c Q st') : Ev C c Q st := fun a w S μ hR => by
 obtain ⟨S', μ', h'⟩ := h C S μ a w hR
 exact he a w S' μ' h'
theorem GE {id : Nat} {c : Code} {k : List (Nat × Ov) → Option ts → bf → St → Prop} (hk : ∀ o t h st, k o t h st → Ev C c Q st) : ∀ (h : bf) (st : St), uw id h st k → Ev C c Q st := by
 intro h
 induction h with
 | w i o h ih => intro st hp; unfold uw at hp; split at hp <;> exact hk _ _ _ _ hp
 | y i o t h ih => intro st hp; unfold uw at hp; split at hp <;> exact hk _ _ _ _ hp
 | q i kp n h ih =>
  intro st hp; unfold uw at hp; split at hp
  ·rw [kZ] at hp; exact Ev.keep kp n rfl (ih _ hp)
  ·exact hk _ _ _ _ hp
 | f i b h ih =>
  intro st hp; unfold uw at hp; split at hp
  ·split at hp
   ·rename_i st' hf; rw [kZ] at hp; exact Ev.freeze b hf (ih _ hp)
   ·exact hp.elim
  ·exact hk _ _ _ _ hp
 | g i a j E sz enc d h ih =>
  intro st hp; unfold uw at hp; split at hp
  ·split at hp
   ·rename_i st' hf; rw [kZ] at hp; exact Ev.adopt a j E sz enc d hf (ih _ hp)
   ·exact hp.elim
  ·exact hk _ _ _ _ hp
 | gs i t E sz enc d h ih =>
  intro st hp; unfold uw at hp; split at hp
  ·split at hp
   ·rename_i st' hf; rw [kZ] at hp; exact Ev.adoptE t E sz enc d hf (ih _ hp)
   ·exact hp.elim
  ·exact hk _ _ _ _ hp
 | mv i j a h ih =>
  intro st hp; unfold uw at hp; split at hp
  ·split at hp
   ·rename_i st' hf; rw [kZ] at hp; exact Ev.move j a hf (ih _ hp)
   ·exact hp.elim
  ·exact hk _ _ _ _ hp
 | gh i F h ih =>
  intro st hp; unfold uw at hp; split at hp
  ·rw [kZ] at hp; exact Ev.gh (F.ok st hp.1) (ih _ hp.2)
  ·exact hk _ _ _ _ hp
 | s i P x y ih1 ih2 =>
  intro st hp; unfold uw at hp; split at hp
  ·by_cases hP : P
   ·exact ih1 _ (hp.1 hP)
   ·exact ih2 _ (hp.2 hP)
  ·exact hk _ _ _ _ hp
 | _ => intro st hp; unfold uw at hp; exact hk _ _ _ _ hp
theorem gN {b : Bool} {X Y : bf → Prop} (h : bf) (hh : match b with | true => X h | false => Y h) : (b = true → ∃ h', X h') ∧ (b = false → ∃ h', Y h') := by
 cases b
 ·exact ⟨fun h => (by cases h), fun _ => ⟨_, hh⟩⟩
 ·exact ⟨fun _ => ⟨_, hh⟩, fun h => (by cases h)⟩
theorem CE {t : Nat} {b : Bool} {X Y : bf → Prop} {h : bf} (hc : sN t b X Y h) : (b = true → ∃ h', X h') ∧ (b = false → ∃ h', Y h') := by
 cases h with
 | c t' P x y =>
  simp only [sN] at hc; split at hc
  ·obtain ⟨h1, h2, h3⟩ := hc
   subst h1
   exact ⟨fun h => ⟨_, h2 (of_decide_eq_true h)⟩, fun h => ⟨_, h3 (of_decide_eq_false h)⟩⟩
  ·exact gN _ hc
 | n t' P x y =>
  simp only [sN] at hc; split at hc
  ·obtain ⟨h1, h2, h3⟩ := hc
   subst h1
   exact ⟨fun h => ⟨_, h2 (by simpa using h)⟩, fun h => ⟨_, h3 (by simpa using h)⟩⟩
  ·exact gN _ hc
 | b t' x y =>
  simp only [sN] at hc; split at hc
  ·exact ⟨fun h => ⟨_, hc.1 h⟩, fun h => ⟨_, hc.2 h⟩⟩
  ·exact gN _ hc
 | t t' x =>
  simp only [sN] at hc; split at hc
  ·exact ⟨fun h => ⟨_, hc.2⟩, fun h => (by rw [hc.1] at h; cases h)⟩
  ·exact gN _ hc
 | u t' x =>
  simp only [sN] at hc; split at hc
  ·exact ⟨fun h => (by rw [hc.1] at h; cases h), fun h => ⟨_, hc.2⟩⟩
  ·exact gN _ hc
 | _ => exact gN _ hc
theorem Bb {id : Nat} {ops : Array Oper} {draw : Bool} {h : bf} {st : St} {K : bf → Exit → St → Prop} (hv : vc C.P C.nt (.region id ops draw) K h st) (hK : ∀ h st, K h .normal st → Q .normal st) : Ev C (.region id ops draw) Q st := by
 unfold vc at hv
 refine GE ?_ h st hv
 intro o t h st hq
 have ha : ops = ops.toList.toArray := by simp
 cases t with
 | some tab =>
  cases draw with
  | false => exact hq.elim
  | true =>
   replace hq : (match ez tab (List.replicate ops.toList.length false) with
    | some _ => EM C.P C.nt ops.toList o tab st (fun st => K h .normal st)
    | none => xe C.P C.nt ops.toList o (sM o [] 0 ops.toList) tab st (fun st => K h .normal st)) := hq
   cases h00 : ez tab (List.replicate ops.toList.length false) with
   | none =>
    rw [h00] at hq
    have hq : xe C.P C.nt ops.toList o (sM o [] 0 ops.toList) tab st (fun st => K h .normal st) := hq
    rw [ha]
    exact Ev.dwT (Q := Q) o _ tab (A8 hq (fun st' hk => hK _ _ hk))
   | some st00 =>
   rw [h00] at hq
   replace hq : EM C.P C.nt ops.toList o tab st (fun st => K h .normal st) := hq
   unfold EM at hq
   cases hb : C.P.follows .mixedOrders && ops.toList.all (fun o => !co o) with
   | false => rw [hb] at hq; exact hq.elim
   | true =>
   cases h0 : ez tab (List.replicate ops.toList.length false) with
   | none => rw [hb, h0] at hq; exact hq.elim
   | some st0 =>
   cases h1 : ez tab (List.replicate ops.toList.length true) with
   | none => rw [hb, h0, h1] at hq; exact hq.elim
   | some st1 =>
   rw [hb, h0, h1] at hq
   simp only [Bool.and_eq_true] at hb
   obtain ⟨q1, q2, q3⟩ := hq
   rw [kZ] at q3
   rw [ha]
   exact Ev.any (st' := st1) o tab hb.1 hb.2 h0 q1 h1 rfl q2 (hK _ _ q3)
 | none =>
  cases draw with
  | false =>
   obtain ⟨h1, h2⟩ := rE _ _ _ _ hq
   rw [kZ] at h2
   rw [ha]
   exact Ev.regA o rfl h1 (hK _ _ h2)
  | true =>
   rw [ha]
   refine Ev.dw o (sM o [] 0 ops.toList) ?_
   have hq' : Gv C.P C.nt ops.toList o (sM o [] 0 ops.toList) st (fun st => nS st (fun st => K h .normal st)) := by simpa using hq
   exact Cm hq' (fun st1 h1 => hK _ _ (by rwa [kZ] at h1))
theorem sO {c : Code} (ih : ∀ (K : bf → Exit → St → Prop) (h : bf) (st : St), vc C.P C.nt c K h st → Ev C c (fun e st => ∃ h', K h' e st) st) (K : bf → Exit → St → Prop) : ∀ (n : Nat) (h : bf) (st : St) (S : Nat → Prop) (μ : Nat → Value) (a : Act) (w : World), aU C S μ st a w →
  EN (fun K => vc C.P C.nt c K) K n h st → Code.roundsIn (lS C.rd) 0 C.P c (fun e a' w' => ∃ st' S' μ', (∃ h', K h' e st') ∧ aU C S' μ' st' a' w') n a w
 | 0, h, st, S, μ, a, w, hR, hv => hv.elim
 | n + 1, h, st, S, μ, a, w, hR, hv => by
  rw [roundsIn_succ]
  refine wpIn_mono (ih _ _ _ hv a w S μ hR) ?_
  rintro e a' w' ⟨st', S', μ', ⟨h', hq⟩, hR'⟩
  cases e with
  | normal => exact sO ih K n h' st' S' μ' a' w' hR' hq
  | exit i => exact ⟨st', S', μ', ⟨h', hq⟩, hR'⟩
  | goto l => exact ⟨st', S', μ', ⟨h', hq⟩, hR'⟩
  | ret => exact ⟨st', S', μ', ⟨h', hq⟩, hR'⟩
  | panic ch => exact ⟨st', S', μ', ⟨h', hq⟩, hR'⟩
  | outgrown => exact ⟨st', S', μ', ⟨h', hq⟩, hR'⟩
theorem Bc {c : Code} (ih : ∀ (K : bf → Exit → St → Prop) (h : bf) (st : St), vc C.P C.nt c K h st → Ev C c (fun e st => ∃ h', K h' e st) st) (K : bf → Exit → St → Prop) (n : Nat) (h : bf) (st : St) (hv : EN (fun K => vc C.P C.nt c K) K n h st) : Ev C (.loop c) (fun e st => ∃ h', K h' e st) st :=
 fun a w S μ hR => wpIn_loop_rounds n (sO ih K n h st S μ a w hR hv)
theorem H4 {p : Prop} {a b : Bool} (h : p ∨ (a && b) = true) : p ∨ a = true := h.imp_right fun h => by rw [Bool.and_eq_true] at h; exact h.1
theorem H5 {p : Prop} {a b : Bool} (h : p ∨ (a && b) = true) : p ∨ b = true := h.imp_right fun h => by rw [Bool.and_eq_true] at h; exact h.2
theorem qm : ∀ (c : Code), (C.rd = none ∨ EO c = true) → ∀ (K : bf → Exit → St → Prop) (h : bf) (st : St), vc C.P C.nt c K h st → Ev C c (fun e st => ∃ h', K h' e st) st := by
 intro c
 induction c with
 | skip => intro _ K h st hv; exact Ev.skip ⟨h, hv⟩
 | label l => intro _ K h st hv; exact Ev.label ⟨h, hv⟩
 | exit i => intro _ K h st hv; exact Ev.exit ⟨h, hv⟩
 | ret => intro _ K h st hv; exact Ev.ret ⟨h, hv⟩
 | region id ops draw => intro _ K h st hv; exact Bb hv (fun h st hk => ⟨h, hk⟩)
 | seq x y ihx ihy =>
  intro hr K h st hv
  have ihx := ihx (H4 hr)
  have ihy := ihy (H5 hr)
  unfold vc at hv
  split at hv
  ·refine Ev.seq ((ihx _ _ _ hv).mono ?_)
   rintro e st' ⟨h', hq⟩
   cases e with
   | normal => exact ihy _ _ _ hq
   | exit i => exact ⟨h', hq⟩
   | goto l => exact ⟨h', hq⟩
   | ret => exact ⟨h', hq⟩
   | panic ch => exact ⟨h', hq⟩
   | outgrown => exact ⟨h', hq⟩
  ·cases h with
   | k id L hx hy =>
    obtain ⟨h1, h2⟩ := hv
    refine Ev.cut L.keep L.n L.mk L.inv ((ihx _ _ _ h1).mono ?_) (fun s hs => ihy _ _ _ (L.hall _ h2 s hs))
    rintro e st' ⟨h', hq⟩
    cases e with
    | normal => exact hq
    | exit i => exact ⟨h', hq⟩
    | goto l => exact ⟨h', hq⟩
    | ret => exact ⟨h', hq⟩
    | panic ch => exact ⟨h', hq⟩
    | outgrown => exact ⟨h', hq⟩
   | _ => exact hv.elim
 | cond c x y ihx ihy =>
  intro hr K h st hv
  have ihx := ihx (H4 hr)
  have ihy := ihy (H5 hr)
  unfold vc at hv
  split at hv
  ·rename_i b hb
   obtain ⟨h1, h2⟩ := CE hv
   exact Ev.cond b hb (fun hb => by obtain ⟨h', q⟩ := h1 hb; exact ihx _ _ _ q) (fun hb => by obtain ⟨h', q⟩ := h2 hb; exact ihy _ _ _ q)
  ·exact hv.elim
 | block i c ih =>
  intro hr K h st hv
  have ih := ih hr
  unfold vc at hv
  refine Ev.block ((ih _ _ _ hv).mono ?_)
  rintro e st' ⟨h', hq⟩
  cases e with
  | exit j =>
   show (if Nat.beq j i = true then _ else _)
   change (match Nat.beq j i with | true => K h' .normal st' | false => K h' (.exit j) st') at hq
   by_cases hj : Nat.beq j i = true
   ·rw [hj] at hq; rw [if_pos hj]; exact ⟨h', hq⟩
   ·rw [if_neg hj]
    simp only [Bool.not_eq_true] at hj
    rw [hj] at hq
    exact ⟨h', hq⟩
  | normal => exact ⟨h', hq⟩
  | goto l => exact ⟨h', hq⟩
  | ret => exact ⟨h', hq⟩
  | panic ch => exact ⟨h', hq⟩
  | outgrown => exact ⟨h', hq⟩
 | loop c ih =>
  intro hr K h st hv
  have ih := ih hr
  unfold vc at hv
  split at hv
  ·rename_i σ L s0 hb
   obtain ⟨h1, h2, h3⟩ := hv
   refine Ev.loop L.keep L.n L.mk L.inv L.m s0 h1 h2 ?_
   intro s hs
   refine (ih _ _ _ (L.hall _ h3 s hs)).mono ?_
   rintro e st' ⟨h', hq⟩
   cases e with
   | normal => exact hq
   | exit i => exact ⟨h', hq⟩
   | goto l => exact ⟨h', hq⟩
   | ret => exact ⟨h', hq⟩
   | panic ch => exact ⟨h', hq⟩
   | outgrown => exact ⟨h', hq⟩
  ·exact Bc ih K _ _ _ hv
  ·exact hv.elim
 | rangeFunc g ps asg bd =>
  intro hr K h st hv
  unfold vc at hv
  split at hv
  ·rcases hr with hr | hr
   ·exact (hv.1 C rfl rfl hr).mono (fun e1 st1 hq => by obtain ⟨rfl, rfl⟩ := hq; exact ⟨_, hv.2⟩)
   ·cases hr
  ·exact hv.elim
 | _ => intro _ K h st hv; exact (by unfold vc at hv; exact hv.elim)
theorem o3 (hr : C.rd = none) (c : Code) : ∀ (K : bf → Exit → St → Prop) (h : bf) (st : St), vc C.P C.nt c K h st → Ev C c (fun e st => ∃ h', K h' e st) st := qm c (.inl hr)
end
def ri (P : Program) (st : St) : List ResultVar → (List D → Prop) → Prop
 | [], k => k []
 | r :: rs, k => match AX P st r with
  | (d, p) => p ∧ ri P st rs (fun ds => k (d :: ds))
theorem rH {P : Program} {st : St} : ∀ (rs : List ResultVar) (k : List D → Prop), ri P st rs k → (resL P st rs).2 ∧ k (resL P st rs).1
 | [], k, h => ⟨trivial, h⟩
 | r :: rs, k, h => by
  unfold ri at h
  unfold resL
  generalize hq : AX P st r = q at h
  obtain ⟨d, p⟩ := q
  obtain ⟨h1, h2⟩ := h
  obtain ⟨h3, h4⟩ := rH rs _ h2
  exact ⟨⟨h1, h3⟩, h4⟩
def H6 (H : List aj) : D → D → Prop
 | .tup xs, .tup ys => HM H xs ys
 | x, y => FT H x y
def IT : D → D → Prop
 | .tup xs, .tup ys => IP xs ys
 | x, y => Gm x y
def CF : List D → D
 | [d] => d
 | ds => .tup ds
def GF (al : Bool) (H : List aj) (x r : D) : Prop := match al with
 | true => H6 H x r
 | false => H6 H x r ∧ IT x r
def H7 (P : Program) (fn : Func) (al : Bool) (r : D) (_ : bf) (e : Exit) (st : St) : Prop := match e with
 | .normal => ri P st fn.results.toList (fun ds => GF al st.heap (CF ds) r)
 | .ret => ri P st fn.results.toList (fun ds => GF al st.heap (CF ds) r)
 | _ => False
theorem vK {P : Program} {st : St} {rs : List ResultVar} : AY P rs st = (CF (resL P st rs).1, (resL P st rs).2) := by
 unfold AY
 generalize resL P st rs = q
 obtain ⟨ds, p⟩ := q
 match ds with
 | [] => rfl
 | [d] => rfl
 | d :: e :: r => rfl
theorem zX {al : Bool} {H : List aj} {x r : D} (h1 : H6 H x r) (h2 : al = true ∨ IT x r) : wW al H x r := by
 unfold wW
 split
 ·exact ⟨h1, h2⟩
 ·rename_i hne
  have e1 : H6 H x r = FT H x r := by
   unfold H6; split
   ·exact (hne _ _ rfl rfl).elim
   ·rfl
  have e2 : IT x r = Gm x r := by
   unfold IT; split
   ·exact (hne _ _ rfl rfl).elim
   ·rfl
  rw [e1] at h1; rw [e2] at h2
  exact ⟨h1, h2⟩
theorem EP {P : Program} {fn : Func} {al : Bool} {r : D} {h : bf} {e : Exit} {st : St} (hk : H7 P fn al r h e st) : HR P fn al r e st := by
 have key : ri P st fn.results.toList (fun ds => GF al st.heap (CF ds) r) → fV P fn st ∧ wW al st.heap (gz P fn st) r := by
  intro hq
  obtain ⟨h1, h2⟩ := rH _ _ hq
  unfold fV gz
  rw [vK]
  refine ⟨h1, ?_⟩
  cases al
  ·exact zX h2.1 (.inr h2.2)
  ·exact zX h2 (.inl rfl)
 cases e with
 | normal => exact key hk
 | ret => exact key hk
 | exit i => exact hk.elim
 | goto l => exact hk.elim
 | panic ch => exact hk.elim
 | outgrown => exact hk.elim
theorem ai.vc {P : Program} {f : FuncId} {fn : Func} {c : Code} {as : List D} {al : Bool} {r : D} {V : Prop} (hint : bf) (hf : P.funcs[f]? = some fn) (hb : fn.body = some c) (hn : Nat.ble as.length fn.ntmps = true) (hr : dT r = true)
  (hv : Proofs.Ytckgpflobhpnpaa.vc P fn.ntmps c (H7 P fn al r) hint ⟨gV 0 as, []⟩ = V) (pf : V) : ai P f as [] al r [] := by
 refine ai.of_ev hf hb hn hr ?_
 intro C h1 h2 hrd_
 subst h1
 rw [← hv, ← h2] at pf
 exact (o3 hrd_ c _ hint _ pf).mono (fun e st' ⟨h', hk⟩ => EP hk)
def H8 (P : Program) (fn : Func) (r : D) (H : List aj) (_ : bf) (e : Exit) (st : St) : Prop := match e with
 | .normal => ri P st fn.results.toList (fun ds => oJ (CF ds) r ∧ st.heap.take H.length = H)
 | .ret => ri P st fn.results.toList (fun ds => oJ (CF ds) r ∧ st.heap.take H.length = H)
 | _ => False
theorem ER {P : Program} {fn : Func} {r : D} {H : List aj} {h : bf} {e : Exit} {st : St} (hk : H8 P fn r H h e st) : HQ P fn r H e st := by
 have key : ri P st fn.results.toList (fun ds => oJ (CF ds) r ∧ st.heap.take H.length = H) → fV P fn st ∧ oJ (gz P fn st) r ∧ st.heap.take H.length = H := by
  intro hq
  obtain ⟨h1, h2⟩ := rH _ _ hq
  unfold fV gz
  rw [vK]
  exact ⟨h1, h2⟩
 cases e with
 | normal => exact key hk
 | ret => exact key hk
 | exit i => exact hk.elim
 | goto l => exact hk.elim
 | panic ch => exact hk.elim
 | outgrown => exact hk.elim
theorem fh.vc {P : Program} {f : FuncId} {fn : Func} {c : Code} {ds : List D} {H H' : List aj} {r : D} {V : Prop} (hint : bf) (hf : P.funcs[f]? = some fn) (hb : fn.body = some c) (hn : Nat.ble ds.length fn.ntmps = true)
  (hv : Proofs.Ytckgpflobhpnpaa.vc P fn.ntmps c (H8 P fn r H') hint ⟨gV 0 ds, H⟩ = V) (pf : V) : fh P f ds H r H' := by
 refine ⟨fn, c, hf, hb, hn, ?_⟩
 intro C h1 h2 hrd_
 subst h1
 rw [← hv, ← h2] at pf
 exact (o3 hrd_ c _ hint _ pf).mono (fun e st' ⟨h', hk⟩ => ER hk)
def ld (k : Nat) : Code → Option Code
 | .rangeFunc g ps a b => match Nat.beq (ps.toList.headD 0) k with
  | true => some (.rangeFunc g ps a b)
  | false => ld k b
 | .seq a b => match ld k a with
  | some c => some c
  | none => ld k b
 | .cond _ a b => match ld k a with
  | some c => some c
  | none => ld k b
 | .block _ a => ld k a
 | .loop a => ld k a
 | _ => none
def J5 (P : Program) (f : FuncId) (k : Nat) : Code := match P.funcs[f]? with
 | some fn => match fn.body with
  | some c => match ld k c with
   | some r => r
   | none => .skip
  | none => .skip
 | none => .skip
def J6 : Code → Operand
 | .rangeFunc g _ _ _ => g
 | _ => .tmp 0
def I7 : Code → List Nat
 | .rangeFunc _ ps _ _ => ps.toList
 | _ => []
def J7 : Code → Code
 | .rangeFunc _ _ a _ => a
 | c => c
def J8 : Code → Code
 | .rangeFunc _ _ _ b => b
 | c => c
def I8 : Code → Bool
 | .rangeFunc _ _ _ _ => true
 | _ => false
def zY (P : Program) (nt : Nat) (code : Code) (st : St) (id l ntL : Nat) (tm : Array Value) (e0 : Exit) (st0 : St) : Prop := ∀ C1 : kx, C1.P = P → C1.nt = nt → C1.rd = none → Ev C1 code (yk id l ntL tm (fun e s => e = e0 ∧ s = st0)) st
theorem o2.vc {P : Program} {nt : Nat} {c : Code} {st st0 : St} {e0 : Exit} {gid : FuncId} {first cap : List D} {fn : Func} {code : Code} (hc : I8 c = true) (hg : dZ st.env (J6 c) = .fn (.func gid) first cap) (hf : P.funcs[gid]? = some fn) (hb : fn.body = some code)
  (hgo : gv P gid = true) (hn : Nat.ble (first.length + 1 + cap.length) fn.ntmps = true) (hres : fn.results.toList = []) (hfe : bA st.heap.length st.env = true) (hfh : bn st.heap.length st.heap = true)
  (h : ∀ (l : Nat) (tm : Array Value) (asg bd : Code), asg = J7 c → bd = J8 c → zY P fn.ntmps code ⟨gV 0 (first ++ [.yld st.heap.length] ++ cap), st.heap ++ [.loop l tm nt st.env (I7 c) asg bd .ready none]⟩ st.heap.length l nt tm e0 st0) : o2 P nt c st e0 st0 := by
 intro C h1 h2 h3
 subst h1
 subst h2
 cases c with
 | rangeFunc g ps a b =>
  have hk := Ev.range (C := C) (ps := ps.toList) (assign := a) (body := b) (Q := fun e s => e = e0 ∧ s = st0) h3 hg hf hb hgo hn hres hfe hfh (fun C1 l tm asg bd q1 q2 q3 q4 q5 => h l tm asg bd q1 q2 C1 q3 q4 q5)
  rwa [Array.toArray_toList] at hk
 | _ => cases hc
def rI (id l nt : Nat) (tm : Array Value) (e0 : Exit) (st0 st : St) : Prop := match st.heap[id]? with
 | some (.loop l' tm' nt' env _ _ _ s p) => match yj s with
  | true => False
  | false => match B9 p with
   | some e' => (l' = l ∧ tm' = tm ∧ nt' = nt) ∧ e' = e0 ∧ (⟨env, st.heap.set id .dead⟩ : St) = st0
   | none => False
 | _ => False
def CG (id l nt : Nat) (tm : Array Value) (e0 : Exit) (st0 : St) (_ : bf) (e : Exit) (st : St) : Prop := match e with
 | .normal => rI id l nt tm e0 st0 st
 | .ret => rI id l nt tm e0 st0 st
 | _ => False
theorem Bd {id l nt : Nat} {tm : Array Value} {e0 : Exit} {st0 : St} {h : bf} {e : Exit} {st : St} (hk : CG id l nt tm e0 st0 h e st) : yk id l nt tm (fun e s => e = e0 ∧ s = st0) e st := by
 have key : rI id l nt tm e0 st0 st → match st.heap[id]? with
  | some (.loop l' tm' nt' env _ _ _ s p) => l' = l ∧ tm' = tm ∧ nt' = nt ∧ yj s = false ∧ match B9 p with
   | some e' => e' = e0 ∧ (⟨env, st.heap.set id .dead⟩ : St) = st0
   | none => False
  | _ => False := by
  intro hq
  unfold rI at hq
  split at hq
  ·rename_i l' tm' nt' env a1 a2 a3 s p hb
   split at hq
   ·exact hq.elim
   ·rename_i hs
    split at hq
    ·rename_i e' hp
     obtain ⟨⟨q1, q2, q3⟩, q4⟩ := hq
     exact ⟨q1, q2, q3, hs, q4⟩
    ·exact hq.elim
  ·exact hq.elim
 cases e with
 | normal => exact ⟨.inl rfl, key hk⟩
 | ret => exact ⟨.inr rfl, key hk⟩
 | _ => exact hk.elim
theorem zY.vc {P : Program} {nt : Nat} {code : Code} {st st0 : St} {id l ntL : Nat} {tm : Array Value} {e0 : Exit} {V : Prop} (hint : bf) (hv : Proofs.Ytckgpflobhpnpaa.vc P nt code (CG id l ntL tm e0 st0) hint st = V) (pf : V) : zY P nt code st id l ntL tm e0 st0 := by
 intro C h1 h2 h3
 subst h1
 subst h2
 rw [← hv] at pf
 exact (o3 h3 code _ hint _ pf).mono (fun e st' ⟨h', hk⟩ => Bd hk)
def vL (id l : Nat) (b : Bool) (H : List aj) (_ : bf) (e : Exit) (st : St) : Prop := match st.heap[id]? with
 | some (.loop l' tm nt env ps asg bd _ _) => match yf e with
  | some b' => l' = l ∧ b' = b ∧ (st.heap.set id (.loop l' tm nt env ps asg bd (oT e) (rB e))).take H.length = H
  | none => False
 | _ => False
theorem Be {id l : Nat} {b : Bool} {H : List aj} {h : bf} {e : Exit} {st : St} (hk : vL id l b H h e st) : vz id l b H e st := by
 unfold vL at hk
 unfold vz
 split at hk
 ·rename_i hq
  split at hk
  ·rename_i ha
   rw [hq]
   exact ⟨hk.1, by rw [ha, hk.2.1], hk.2.2⟩
  ·exact hk.elim
 ·exact hk.elim
def GG (P : Program) (nt : Nat) (bd : Code) (id l : Nat) (b : Bool) (H : List aj) (h : bf) (e : Exit) (st : St) : Prop := match e with
 | .normal => match st.heap[id]? with
  | some (.loop l' tm n2 env ps asg bd' .ready none) => l' = l ∧ vc P nt bd (vL id l b H) h ⟨st.env, st.heap.set id (.loop l' tm n2 env ps asg bd' .busy none)⟩
  | _ => False
 | _ => False
theorem oU.vc {P : Program} {l nt id : Nat} {asg bd A B : Code} {st : St} {b : Bool} {H : List aj} {V : Prop} (hint : bf) (ha : asg = A) (hb : bd = B) (hn : (EO A && EO B) = true) (hv : Proofs.Ytckgpflobhpnpaa.vc P nt A (GG P nt B id l b H) hint st = V) (pf : V) : oU P l nt asg bd st id b H := by
 subst ha
 subst hb
 rw [Bool.and_eq_true] at hn
 intro C h1 h2 h3
 subst h1
 subst h2
 rw [← hv] at pf
 refine (qm asg (.inr hn.1) _ hint _ pf).mono ?_
 rintro e st' ⟨h', hk⟩
 cases e with
 | normal =>
  change (match st'.heap[id]? with
   | some (.loop l' tm n2 env ps asg bd' .ready none) => l' = l ∧ Proofs.Ytckgpflobhpnpaa.vc C.P C.nt bd (vL id l b H) h' ⟨st'.env, st'.heap.set id (.loop l' tm n2 env ps asg bd' .busy none)⟩
   | _ => False) at hk
  simp only [yg]
  split at hk
  ·rename_i hq
   rw [hq]
   exact ⟨hk.1, (qm bd (.inr hn.2) _ _ _ hk.2).mono (fun e st' ⟨h', hk⟩ => Be hk)⟩
  ·exact hk.elim
 | _ => exact hk.elim
def sP : aj → Prop
 | .arr _ _ _ _ l => l = []
 | _ => False
def zZ : Option aj → aj → Prop
 | some B', B => B' = B
 | none, _ => False
def ES (H : List aj) (x r : D) (B : aj) : Prop := match x with
 | .nils => r = .own 0 ∧ sP B
 | .own i => r = .own 0 ∧ zZ H[i]? B
 | .gr i s => r = .gr 0 s ∧ zZ H[i]? B
 | x => ∃ id, H[id]? = some B ∧ yn id x r
def FZ (P : Program) (fn : Func) (r : D) (B : aj) (_ : bf) (e : Exit) (st : St) : Prop := match e with
 | .normal => ri P st fn.results.toList (fun ds => ES st.heap (CF ds) r B)
 | .ret => ri P st fn.results.toList (fun ds => ES st.heap (CF ds) r B)
 | _ => False
def CH (P : Program) (fn : Func) (r : D) (B : aj) : Exit → St → Prop
 | .normal, st => fV P fn st ∧ ((∃ id, st.heap[id]? = some B ∧ yn id (gz P fn st) r) ∨ (gz P fn st = .nils ∧ r = .own 0 ∧ sP B))
 | .ret, st => fV P fn st ∧ ((∃ id, st.heap[id]? = some B ∧ yn id (gz P fn st) r) ∨ (gz P fn st = .nils ∧ r = .own 0 ∧ sP B))
 | _, _ => False
theorem CI {P : Program} {fn : Func} {r : D} {B : aj} {h : bf} {e : Exit} {st : St} (hk : FZ P fn r B h e st) : CH P fn r B e st := by
 have key : ri P st fn.results.toList (fun ds => ES st.heap (CF ds) r B) → fV P fn st ∧ ((∃ id, st.heap[id]? = some B ∧ yn id (gz P fn st) r) ∨ (gz P fn st = .nils ∧ r = .own 0 ∧ sP B)) := by
  intro hq
  obtain ⟨h1, h2⟩ := rH _ _ hq
  unfold fV gz
  rw [vK]
  refine ⟨h1, ?_⟩
  generalize CF (resL P st fn.results.toList).1 = x at h2 ⊢
  unfold ES at h2
  split at h2
  ·exact .inr ⟨rfl, h2⟩
  ·rename_i i
   obtain ⟨rfl, h2⟩ := h2
   unfold zZ at h2
   split at h2
   ·rename_i B' hB'
    subst h2
    exact .inl ⟨i, hB', rfl, rfl⟩
   ·exact h2.elim
  ·rename_i i q
   obtain ⟨rfl, h2⟩ := h2
   unfold zZ at h2
   split at h2
   ·rename_i B' hB'
    subst h2
    exact .inl ⟨i, hB', rfl, rfl, rfl⟩
   ·exact h2.elim
  ·exact .inl h2
 cases e with
 | normal => exact key hk
 | ret => exact key hk
 | exit i => exact hk.elim
 | goto l => exact hk.elim
 | panic ch => exact hk.elim
 | outgrown => exact hk.elim
theorem ai.of_evO' {P : Program} {f : FuncId} {fn : Func} {c : Code} {as : List D} {r : D} {B : aj} (hf : P.funcs[f]? = some fn) (hb : fn.body = some c) (hn : Nat.ble as.length fn.ntmps = true) (hB : B.isOwn = true)
  (h : ∀ C : kx, C.P = P → C.nt = fn.ntmps → C.rd = none → Ev C c (CH P fn r B) ⟨gV 0 as, []⟩) : ai P f as [] false r [B] := by
 intro S μ w us hS hH hus
 rw [Nat.ble_eq] at hn
 let C : kx := ⟨P, w, S, fn.ntmps, [], none⟩
 have hrel : aU C S μ ⟨gV 0 as, []⟩ (sk us fn.ntmps) w :=
  ⟨rfl, rfl, rfl, Nat.le_refl _, fun _ _ => rfl, fun _ h => h, fun _ h => .inl h, hS, rz hus hn, ⟨fun id B hB => by simp at hB, fun i j A B b hA => by simp at hA, fun i A b hA => by simp at hA⟩, fun i A b hA => by simp at hA, ⟨[], rfl, by simp [C], fun b hb => by simp [C] at hb⟩, oS hus.1 hn, fun i A b hA => by simp at hA⟩
 refine (iI (C := C) hf hb rfl hrel (h C rfl rfl rfl) (fun e st' hq => ?_)).mono ?_
 ·cases e <;> first | exact ⟨.inl rfl, hq.1⟩ | exact ⟨.inr rfl, hq.1⟩ | exact hq.elim
 rintro e w' ⟨u, e0, st', S', μ', a', rfl, hq, hR, hx⟩
 have hq : (∃ id, st'.heap[id]? = some B ∧ yn id (gz P fn st') r) ∨ (gz P fn st' = .nils ∧ r = .own 0 ∧ sP B) := by
  cases e0 <;> first | exact hq.2 | exact hq.elim
 have hl : B.live = true := by cases B <;> first | rfl | cases hB
 have one : ∀ (i : Nat) (A : aj), [B][i]? = some A → i = 0 ∧ A = B := by
  intro i A hA
  match i with
  | 0 => simp at hA; exact ⟨rfl, hA.symm⟩
  | i + 1 => simp at hA
 rcases hq with ⟨id, hid, hr⟩ | ⟨hn0, rfl, hem⟩
 ·refine ⟨u, fun _ => μ' id, S', rfl, hR.os, hR.tape, hR.output, hR.size, fun k hk _ => hR.old k hk, hR.mono, hR.new, hR.slt, Cd hx hr, ⟨?_, ?_, ?_⟩, ?_, fun i A hA => by simp at hA⟩
  ·intro i A hA
   obtain ⟨rfl, rfl⟩ := one i A hA
   refine (hR.heap.box id _ hid).stable (fun _ h _ => h) (fun _ _ _ => rfl) (Nat.le_refl _) (fun j hj => ?_) (fun _ _ => rfl)
   cases A <;> first | (cases hB; done) | cases hj
  ·intro i j A A' b hA hA' _ _ _ _
   rw [(one i A hA).1, (one j A' hA').1]
  ·intro i A b hA la hb
   obtain ⟨rfl, rfl⟩ := one i A hA
   exact hR.heap.notS id _ b hid hl hb
  ·intro i A b hA la hb
   obtain ⟨rfl, rfl⟩ := one i A hA
   exact .inl (hR.may id _ b hid hl hb)
 ·rw [hn0] at hx
  cases hx
  refine ⟨_, fun _ => .slice none 0 0, S', rfl, hR.os, hR.tape, hR.output, hR.size, fun k hk _ => hR.old k hk, hR.mono, hR.new, hR.slt, af.own (μ := fun _ => .slice none 0 0) 0, ⟨?_, ?_, ?_⟩, ?_, fun i A hA => by simp at hA⟩
  ·intro i A hA
   obtain ⟨rfl, rfl⟩ := one i A hA
   cases A <;> first | cases hem | skip
   exact ⟨fun i x hx => by simp at hx, [], World.ownsRow_nil w' 0 _ _, fun i x j y hx => by simp at hx⟩
  ·intro i j A A' b hA hA' _ _ _ _
   rw [(one i A hA).1, (one j A' hA').1]
  ·intro i A b hA la hb
   simp [bt, aA] at hb
  ·intro i A b hA la hb
   simp [bt, aA] at hb
theorem ai.vcO {P : Program} {f : FuncId} {fn : Func} {c : Code} {as : List D} {r : D} {B : aj} {V : Prop} (hint : bf) (hf : P.funcs[f]? = some fn) (hb : fn.body = some c) (hn : Nat.ble as.length fn.ntmps = true) (hB : B.isOwn = true)
  (hv : Proofs.Ytckgpflobhpnpaa.vc P fn.ntmps c (FZ P fn r B) hint ⟨gV 0 as, []⟩ = V) (pf : V) : ai P f as [] false r [B] := by
 refine ai.of_evO' hf hb hn hB ?_
 intro C h1 h2 hrd_
 subst h1
 rw [← hv, ← h2] at pf
 exact (o3 hrd_ c _ hint _ pf).mono (fun e st' ⟨h', hk⟩ => CI hk)
theorem ai.nilcases {P : Program} {f : FuncId} {sz : Nat} {α : Type} {enc : α → List V} {d : α} {l : List α} {as : List D} {al : Bool} {r : D} {H' : List aj}
  (h1 : l ≠ [] → ai P f (.v (.sl sz enc d l) :: as) [] al r H') (h2 : l = [] → ai P f (.nils :: as) [] al r H') (h3 : l = [] → ai P f (.v .esl :: as) [] al r H') : ai P f (.v (.sl sz enc d l) :: as) [] al r H' := by
 by_cases hl : l = []
 ·intro S μ w us hS hH hus
  have hsz := hus.1
  simp only [List.length_cons] at hsz
  have h0 : us[0]? = some us[0] := Array.getElem?_eq_getElem (by omega)
  have hx := a9 (hus.2 0 _ _ rfl h0)
  have re : ∀ (x : D), af S μ w x us[0] → aD S μ w (x :: as) us := fun x hx => ⟨by simp [hsz], fun j y u hy hu => by
   cases j with
   | zero => simp at hy; subst hy; rw [h0] at hu; cases hu; exact hx
   | succ j => exact hus.2 (j + 1) y u (by simpa using hy) hu⟩
  obtain ⟨p, c, hu, q1, q2, q3, q4⟩ := eF hx
  subst hl
  cases p with
  | none =>
   have := q3 rfl
   subst this
   exact h2 rfl S μ w us hS hH (re _ (by rw [hu]; exact .nils))
  | some p => exact h3 rfl S μ w us hS hH (re _ (by rw [hu]; exact .v _ _ (.esl p c q2)))
 ·exact h1 hl
abbrev tC (P : Program) (g : FuncId) (ds : List D) (H : List aj) (E : List (Nat × D)) (H' N : List aj) (r : D) : Prop := ∀ tm : Array Value, fh P g ds (H ++ [.frame tm E]) r (H' ++ .frame tm E :: N)
def TT : Nat → Prop → Prop
 | 0, p => p
 | n + 1, p => True ∧ TT n p
theorem tt : ∀ {n : Nat} {p : Prop}, p → TT n p
 | 0, _, h => h
 | n + 1, _, h => ⟨trivial, tt h⟩
abbrev CB (b : Bool) (x y : Prop) : Prop := (b = true → x) ∧ (b = false → y)
abbrev CD (P : Prop) [Decidable P] (x y : Prop) : Prop := CB (decide P) x y
abbrev CN (P : Prop) [Decidable P] (x y : Prop) : Prop := CB (!decide P) x y
abbrev CS (P x y : Prop) : Prop := (P → x) ∧ (¬P → y)
theorem cd {P : Prop} [Decidable P] {x y : Prop} (h1 : P → x) (h2 : ¬P → y) : CD P x y := ⟨fun h => h1 (of_decide_eq_true h), fun h => h2 (of_decide_eq_false h)⟩
theorem cn {P : Prop} [Decidable P] {x y : Prop} (h1 : ¬P → x) (h2 : P → y) : CN P x y := ⟨fun h => h1 (by simpa using h), fun h => h2 (by simpa using h)⟩
abbrev GO {σ : Type} (L : Lp σ) (s0 : σ) (body : Prop) : Prop := L.mk s0 = L.mk s0 ∧ L.inv s0 ∧ body
abbrev AG {σ : Type} (L : Lp σ) (s s' : σ) : Prop := L.ag s (L.mk s')
theorem vT {P : Prop} [Decidable P] (h : P) : True ∧ decide P = true := ⟨trivial, decide_eq_true h⟩
theorem vF {P : Prop} [Decidable P] (h : ¬P) : True ∧ decide P = false := ⟨trivial, decide_eq_false h⟩
theorem J9 {P : Prop} [Decidable P] (h : ¬P) : (!decide P) = true := by simp [h]
theorem Ka {P : Prop} [Decidable P] (h : P) : (!decide P) = false := by simp [h]
theorem nT {P : Prop} [Decidable P] (h : ¬P) : True ∧ (!decide P) = true := ⟨trivial, J9 h⟩
theorem nF {P : Prop} [Decidable P] (h : P) : True ∧ (!decide P) = false := ⟨trivial, Ka h⟩
theorem Kb {b : Bool} (h : ¬b = true) : b = false := by simpa using h
theorem I9 {b : Bool} (h : ¬b = true) : (!b) = true := by simpa using h
theorem CJ {b : Bool} (h : b = true) : (!b) = false := by simp [h]
theorem bT {b : Bool} (h : b = true) : True ∧ b = true := ⟨trivial, h⟩
theorem bF {b : Bool} (h : ¬b = true) : True ∧ b = false := ⟨trivial, Kb h⟩
theorem mT {b : Bool} (h : ¬b = true) : True ∧ (!b) = true := ⟨trivial, I9 h⟩
theorem mF {b : Bool} (h : b = true) : True ∧ (!b) = false := ⟨trivial, CJ h⟩
abbrev HE (H : List aj) : Prop := H = H
abbrev IX (i n : Int) : Prop := 0 ≤ i ∧ i < n
theorem ix {i n : Int} (h : 0 ≤ i ∧ i < n := by first | omega | (simp; omega)) : IX i n := h
theorem om {p : Prop} (h : p := by first | omega | (simp; first | done | omega)) : p := h
abbrev W6 (x : Int) : Prop := True ∧ IntKind.i64.wrap x = x
theorem w6 {x : Int} (h1 : -9223372036854775808 ≤ x := by first | omega | (simp; first | done | omega)) (h2 : x ≤ 9223372036854775807 := by first | omega | (simp; first | done | omega)) : W6 x := ⟨trivial, I1 rfl h1 h2⟩
theorem ai.recast {P : Program} {f : FuncId} {as as' : List D} {al : Bool} {r : D} (h : xP [] as as') (hc : ai P f as' [] al r []) : ai P f as [] al r [] := fun S μ w us hS hH hus =>
 hc S μ w us hS hH (lZ hH (fun _ h => h) hS (.inl fun i A b hA => by simp at hA) h hus)
structure Ct : Type 1 where
 f : FuncId
 as : List D
 al : Bool
 r : D
abbrev Ct.O (c : Ct) : Ov := .call none c.al c.r
abbrev Ct.O' (c : Ct) : Ov := .call (some c.as) c.al c.r
abbrev Ct.C (P : Program) (c : Ct) : Prop := ai P c.f c.as [] c.al c.r []
abbrev Ct.K (P : Program) (c : Ct) : Prop := xP [] c.as c.as ∧ ai P c.f c.as [] c.al c.r []
structure tD : Type 1 where
 f : FuncId
 as : List D
 r : D
 B : aj
abbrev tD.O (c : tD) : Ov := .ownd none c.r c.B
abbrev tD.O' (c : tD) : Ov := .ownd (some c.as) c.r c.B
abbrev tD.F (c : tD) : Ov := .ownc none c.r c.B
mutual
def lf : D → Bool
 | .v (.mp _) => false
 | .agg cs => eL cs
 | .tup cs => eL cs
 | .fn _ a b => eL a && eL b
 | _ => true
def eL : List D → Bool
 | [] => true
 | d :: r => lf d && eL r
end
theorem CL : ∀ (x : V), (∀ es, x ≠ .mp es) → El x x
 | .int k n, _ => by simp [El]
 | .bool b, _ => rfl
 | .str s, _ => rfl
 | .nilf, _ => trivial
 | .nsl, _ => trivial
 | .esl, _ => trivial
 | .sl sz enc d l, _ => by simp [El]
 | .sm ag enc d l, _ => by simp [El]
 | .nmp, _ => trivial
 | .mp es, h => (h es rfl).elim
theorem CM : ∀ (x : D), lf x = true → Em x x
 | .v x, h => CL x (fun es e => by subst e; simp [lf] at h)
 | .nils, _ => rfl
 | .own i, _ => rfl
 | .ptr _ _ _ _, _ => rfl
 | .iptr cs o, _ => by simp [Em]
 | .agg _, _ => rfl
 | .tup _, _ => rfl
 | .fn _ _ _, _ => rfl
 | .yld _, _ => rfl
 | .capd _, _ => rfl
 | .gr _ _, _ => rfl
 | .junk, _ => trivial
theorem xf (x : D) (h : lf x = true) : En [] x x := by
 cases x <;> exact CM _ h
theorem xg : ∀ (l : List D), eL l = true → HL [] l l
 | [], _ => trivial
 | d :: r, h => by simp only [eL, Bool.and_eq_true] at h; exact ⟨xf d h.1, xg r h.2⟩
theorem xh (x : D) (h : lf x = true) : Hy [] x x := by
 cases x <;> exact xf _ h
theorem sQ : ∀ (l : List D), eL l = true → HN [] l l
 | [], _ => trivial
 | d :: r, h => by simp only [eL, Bool.and_eq_true] at h; exact ⟨xh d h.1, sQ r h.2⟩
theorem xi (x : D) (h : lf x = true) : IL [] x x := by
 cases x with
 | agg xs => exact xg _ (by simpa [lf] using h)
 | fn f a b => simp only [lf, Bool.and_eq_true] at h; exact ⟨rfl, sQ a h.1, sQ b h.2⟩
 | _ => exact xh _ h
theorem dm : ∀ (l : List D), eL l = true → xP [] l l
 | [], _ => trivial
 | d :: r, h => by simp only [eL, Bool.and_eq_true] at h; exact ⟨xi d h.1, dm r h.2⟩
end Go.Proofs.Ytckgpflobhpnpaa
