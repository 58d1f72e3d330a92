/-
  What is owed of a function's code, computed: one condition for all its ways. Generic: over any program.
-/
import Derived.Test.YtgfbfajaaaegjaaQDr
import Derived.LoopNIn
namespace Go.Proofs.Ytgfbfajaaaegjaa
open Go.RowKit
set_option linter.unusedVariables false
set_option linter.unusedSimpArgs false
structure Lp (σ : Type) : Type 1 where
 make ::
 keep : List Nat
 n : Nat
 all : (σ → Prop) → Prop
 hall : ∀ P, all P → ∀ s, P s
 mk : σ → St
 inv : σ → Prop
 m : σ → Nat
abbrev io {α : Type} (keep : List Nat) (n : Nat) (mk : α → St) (inv : α → Prop) (m : α → Nat) : Lp α := ⟨keep, n, fun P => ∀ a, P a, fun _ h => h, mk, inv, m⟩
abbrev xu {α β : Type} (keep : List Nat) (n : Nat) (mk : α → β → St) (inv : α → β → Prop) (m : α → β → Nat) : Lp (α × β) :=
 ⟨keep, n, fun P => ∀ a b, P (a, b), fun _ h ⟨a, b⟩ => h a b, fun | (a, b) => mk a b, fun | (a, b) => inv a b, fun | (a, b) => m a b⟩
abbrev Cs {α β γ : Type} (keep : List Nat) (n : Nat) (mk : α → β → γ → St) (inv : α → β → γ → Prop) (m : α → β → γ → Nat) : Lp (α × β × γ) :=
 ⟨keep, n, fun P => ∀ a b c, P (a, b, c), fun _ h ⟨a, b, c⟩ => h a b c, fun | (a, b, c) => mk a b c, fun | (a, b, c) => inv a b c, fun | (a, b, c) => m a b c⟩
abbrev E3 {α β γ δ : Type} (keep : List Nat) (n : Nat) (mk : α → β → γ → δ → St) (inv : α → β → γ → δ → Prop) (m : α → β → γ → δ → Nat) : Lp (α × β × γ × δ) :=
 ⟨keep, n, fun P => ∀ a b c d, P (a, b, c, d), fun _ h ⟨a, b, c, d⟩ => h a b c d, fun | (a, b, c, d) => mk a b c d, fun | (a, b, c, d) => inv a b c d, fun | (a, b, c, d) => m a b c d⟩
def Lp.ag {σ : Type} (L : Lp σ) (s : σ) (st : St) : Prop := ∃ s', st = L.mk s' ∧ L.inv s' ∧ L.m s' < L.m s
def Lp.at {σ : Type} (L : Lp σ) (st : St) : Prop := ∃ s', st = L.mk s' ∧ L.inv s'
inductive bG : Type 1
 | e
 | w (id : Nat) (o : List (Nat × Ov)) (h : bG)
 | q (id : Nat) (keep : List Nat) (n : Nat) (h : bG)
 | f (id b : Nat) (h : bG)
 | g (id i j E sz : Nat) {α : Type} (enc : α → List V) (d : α) (h : bG)
 | gs (id t E sz : Nat) {α : Type} (enc : α → List V) (d : α) (h : bG)
 | mv (id j i : Nat) (h : bG)
 | s (id : Nat) (P : Prop) (x y : bG)
 | y (id : Nat) (o : List (Nat × Ov)) (tab : wp) (h : bG)
 | c (t : Nat) (P : Prop) [i : Decidable P] (x y : bG)
 | n (t : Nat) (P : Prop) [i : Decidable P] (x y : bG)
 | b (t : Nat) (x y : bG)
 | t (t : Nat) (x : bG)
 | u (t : Nat) (x : bG)
 | l {σ : Type} (L : Lp σ) (s0 : σ) (h : σ → bG)
 | r (n : Nat) (h : bG)
 | k (id : Nat) {σ : Type} (L : Lp σ) (x : bG) (h : σ → bG)
def DB (o : Oper) : Bool := match o.op with
 | .store _ _ _ => true
 | .call ⟨.builtin .append, _, _⟩ => true
 | .call ⟨.builtin .copy, _, _⟩ => true
 | _ => false
def DC : Ov → Bool
 | .inl _ _ _ => true
 | .inls _ => true
 | _ => false
def DD : Ov → Bool
 | .app _ _ _ _ _ _ => true
 | _ => false
def DE : Ov → Bool
 | .val .junk => true
 | _ => false
def xv (ovs : List (Nat × Ov)) : List Nat → Nat → List Oper → Nat
 | _, _, [] => 0
 | rd, i, o :: r => if (DB o && !(DD (ja ovs i) || DE (ja ovs i))) || DC (ja ovs i) || (match o.dst with | some t => rd.any (fun s => Nat.beq t s) | none => false) then 0 else xv ovs (oH o.op ++ rd) (i + 1) r + 1
def Cu (P : Program) (nt : Nat) (ops : List Oper) (ovs : List (Nat × Ov)) (tab : wp) (st : St) (k : St → Prop) : Prop :=
 match P.follows .mixedOrders && ops.all (fun o => !dF o), jY tab (List.replicate ops.length false), jY tab (List.replicate ops.length true) with
 | true, some st0, some st1 => wq st st0 = st0 ∧ A1 P nt ops ovs tab tab ∧ nS st1 k
 | _, _, _ => False
def pre (id : Nat) : bG → St → (List (Nat × Ov) → Option wp → bG → St → Prop) → Prop
 | .w i o h, st, k => match Nat.beq i id with
  | true => k o none h st
  | false => k [] none (.w i o h) st
 | .y i o t h, st, k => match Nat.beq i id with
  | true => k o (some t) h st
  | false => k [] none (.y i o t h) st
 | .q i kp n h, st, k => match Nat.beq i id with
  | true => nS (keepS kp n st) (fun st' => pre id h st' k)
  | false => k [] none (.q i kp n h) st
 | .f i b h, st, k => match Nat.beq i id with
  | true => match kK b st with
   | some st' => nS st' (fun st' => pre id h st' k)
   | none => False
  | false => k [] none (.f i b h) st
 | .g i a j E sz enc d h, st, k => match Nat.beq i id with
  | true => match wo a j E sz enc d st with
   | some st' => nS st' (fun st' => pre id h st' k)
   | none => False
  | false => k [] none (.g i a j E sz enc d h) st
 | .gs i t E sz enc d h, st, k => match Nat.beq i id with
  | true => match adoptE t E sz enc d st with
   | some st' => nS st' (fun st' => pre id h st' k)
   | none => False
  | false => k [] none (.gs i t E sz enc d h) st
 | .mv i j a h, st, k => match Nat.beq i id with
  | true => match xi j a st with
   | some st' => nS st' (fun st' => pre id h st' k)
   | none => False
  | false => k [] none (.mv i j a h) st
 | .s i P x y, st, k => match Nat.beq i id with
  | true => (P → pre id x st k) ∧ (¬P → pre id y st k)
  | false => k [] none (.s i P x y) st
 | h, st, k => k [] none h st
def DF : Operand → Nat
 | .tmp t => t + 1
 | _ => 0
def re (t : Nat) (b : Bool) (X Y : bG → Prop) : bG → Prop
 | @bG.c t' P i x y => match Nat.beq (t' + 1) t with
  | true => b = @decide P i ∧ (P → X x) ∧ (¬P → Y y)
  | false => match b with | true => X (@bG.c t' P i x y) | false => Y (@bG.c t' P i x y)
 | @bG.n t' P i x y => match Nat.beq (t' + 1) t with
  | true => b = (!@decide P i) ∧ (¬P → X x) ∧ (P → Y y)
  | false => match b with | true => X (@bG.n t' P i x y) | false => Y (@bG.n t' P i x y)
 | .b t' x y => match Nat.beq (t' + 1) t with
  | true => (b = true → X x) ∧ (b = false → Y y)
  | false => match b with | true => X (.b t' x y) | false => Y (.b t' x y)
 | .t t' x => match Nat.beq (t' + 1) t with
  | true => b = true ∧ X x
  | false => match b with | true => X (.t t' x) | false => Y (.t t' x)
 | .u t' x => match Nat.beq (t' + 1) t with
  | true => b = false ∧ Y x
  | false => match b with | true => X (.u t' x) | false => Y (.u t' x)
 | h => match b with | true => X h | false => Y h
def A7 : Code → Option Nat
 | .region id _ _ => some id
 | .seq a _ => A7 a
 | .block _ a => A7 a
 | .loop a => A7 a
 | _ => none
def DG (x : Code) : bG → Bool
 | .k id _ _ _ => match A7 x with | some i => Nat.beq i id | none => false
 | _ => false
@[reducible] def kSeq (n : bG → St → Prop) (K : bG → Exit → St → Prop) (h : bG) (e : Exit) (st : St) : Prop := match e with
 | .normal => n h st
 | e => K h e st
@[reducible] def kBlock (id : Nat) (K : bG → Exit → St → Prop) (h : bG) (e : Exit) (st : St) : Prop := match e with
 | .exit i => match Nat.beq i id with | true => K h .normal st | false => K h (.exit i) st
 | e => K h e st
def A8 (body : (bG → Exit → St → Prop) → bG → St → Prop) (K : bG → Exit → St → Prop) : Nat → bG → St → Prop
 | 0, _, _ => False
 | n + 1, h, st => body (fun h' e st' => match e with | .normal => A8 body K n h' st' | e => K h' e st') h st
def vc (P : Program) (nt : Nat) : Code → (bG → Exit → St → Prop) → bG → St → Prop
 | .skip, K, h, st => K h .normal st
 | .label _, K, h, st => K h .normal st
 | .exit i, K, h, st => K h (.exit i) st
 | .ret, K, h, st => K h .ret st
 | .seq x y, K, h, st => match DG x h with
  | false => vc P nt x (kSeq (vc P nt y K) K) h st
  | true => match h with
   | .k _ L hx hy => vc P nt x (fun h' e st' => match e with | .normal => L.at (keepS L.keep L.n st') | e => K h' e st') hx st ∧ L.all (fun s => L.inv s → vc P nt y K (hy s) (L.mk s))
   | _ => False
 | .block i c, K, h, st => vc P nt c (kBlock i K) h st
 | .cond c x y, K, h, st => match fg st.env c with
  | .v (.bool b) => re (DF c) b (fun h => vc P nt x K h st) (fun h => vc P nt y K h st) h
  | _ => False
 | .loop c, K, h, st => match h with
  | .l L s0 hb => keepS L.keep L.n st = L.mk s0 ∧ L.inv s0 ∧ L.all (fun s => L.inv s → vc P nt c (fun h' e st' => match e with | .normal => L.ag s (keepS L.keep L.n st') | e => K h' e st') (hb s) (L.mk s))
  | .r n h => A8 (fun K => vc P nt c K) K n h st
  | _ => False
 | .region id ops draw, K, h, st => pre id h st fun o t h st => match t with
  | some tab => match draw with
   | true => Cu P nt ops.toList o tab st (fun st => K h .normal st)
   | false => False
  | none => match draw with
   | false => sj P nt ops.toList o 0 ops.toList st (fun st => nS st (fun st => K h .normal st))
   | true => Cr P nt ops.toList o (xv o [] 0 ops.toList) st (fun st => nS st (fun st => K h .normal st))
 | _, _, _, _ => False
section
variable {C : jP} {Q : Exit → St → Prop}
theorem Ev.regA {st st' : St} {id : Nat} {ops : List Oper} (ovs : List (Nat × Ov)) {p : Prop} (h : dy C.P C.nt ops ovs 0 ops st = (st', p)) (hp : p) (hq : Q .normal st') : Ev C (.region id ops.toArray false) Q st := fun a w S μ hR =>
 wpIn_region_lit (jb ops 0 st S μ a w p hR h hp (fun S' μ' a' w' hR' => ⟨_, S', μ', hq, hR'⟩))
theorem Cv {id : Nat} {c : Code} {k : List (Nat × Ov) → Option wp → bG → St → Prop} (hk : ∀ o t h st, k o t h st → Ev C c Q st) : ∀ (h : bG) (st : St), pre id h st k → Ev C c Q st := by
 intro h
 induction h with
 | w i o h ih => intro st hp; unfold pre at hp; split at hp <;> exact hk _ _ _ _ hp
 | y i o t h ih => intro st hp; unfold pre at hp; split at hp <;> exact hk _ _ _ _ hp
 | q i kp n h ih =>
  intro st hp; unfold pre at hp; split at hp
  ·rw [pB] at hp; exact Ev.keep kp n rfl (ih _ hp)
  ·exact hk _ _ _ _ hp
 | f i b h ih =>
  intro st hp; unfold pre at hp; split at hp
  ·split at hp
   ·rename_i st' hf; rw [pB] at hp; exact Ev.freeze b hf (ih _ hp)
   ·exact hp.elim
  ·exact hk _ _ _ _ hp
 | g i a j E sz enc d h ih =>
  intro st hp; unfold pre at hp; split at hp
  ·split at hp
   ·rename_i st' hf; rw [pB] at hp; exact Ev.adopt a j E sz enc d hf (ih _ hp)
   ·exact hp.elim
  ·exact hk _ _ _ _ hp
 | gs i t E sz enc d h ih =>
  intro st hp; unfold pre at hp; split at hp
  ·split at hp
   ·rename_i st' hf; rw [pB] at hp; exact Ev.adoptE t E sz enc d hf (ih _ hp)
   ·exact hp.elim
  ·exact hk _ _ _ _ hp
 | mv i j a h ih =>
  intro st hp; unfold pre at hp; split at hp
  ·split at hp
   ·rename_i st' hf; rw [pB] at hp; exact Ev.move j a hf (ih _ hp)
   ·exact hp.elim
  ·exact hk _ _ _ _ hp
 | s i P x y ih1 ih2 =>
  intro st hp; unfold pre at hp; split at hp
  ·by_cases hP : P
   ·exact ih1 _ (hp.1 hP)
   ·exact ih2 _ (hp.2 hP)
  ·exact hk _ _ _ _ hp
 | _ => intro st hp; unfold pre at hp; exact hk _ _ _ _ hp
theorem gm {b : Bool} {X Y : bG → Prop} (h : bG) (hh : match b with | true => X h | false => Y h) : (b = true → ∃ h', X h') ∧ (b = false → ∃ h', Y h') := by
 cases b
 ·exact ⟨fun h => (by cases h), fun _ => ⟨_, hh⟩⟩
 ·exact ⟨fun _ => ⟨_, hh⟩, fun h => (by cases h)⟩
theorem zH {t : Nat} {b : Bool} {X Y : bG → Prop} {h : bG} (hc : re t b X Y h) : (b = true → ∃ h', X h') ∧ (b = false → ∃ h', Y h') := by
 cases h with
 | c t' P x y =>
  simp only [re] at hc; split at hc
  ·obtain ⟨h1, h2, h3⟩ := hc
   subst h1
   exact ⟨fun h => ⟨_, h2 (of_decide_eq_true h)⟩, fun h => ⟨_, h3 (of_decide_eq_false h)⟩⟩
  ·exact gm _ hc
 | n t' P x y =>
  simp only [re] at hc; split at hc
  ·obtain ⟨h1, h2, h3⟩ := hc
   subst h1
   exact ⟨fun h => ⟨_, h2 (by simpa using h)⟩, fun h => ⟨_, h3 (by simpa using h)⟩⟩
  ·exact gm _ hc
 | b t' x y =>
  simp only [re] at hc; split at hc
  ·exact ⟨fun h => ⟨_, hc.1 h⟩, fun h => ⟨_, hc.2 h⟩⟩
  ·exact gm _ hc
 | t t' x =>
  simp only [re] at hc; split at hc
  ·exact ⟨fun h => ⟨_, hc.2⟩, fun h => (by rw [hc.1] at h; cases h)⟩
  ·exact gm _ hc
 | u t' x =>
  simp only [re] at hc; split at hc
  ·exact ⟨fun h => (by rw [hc.1] at h; cases h), fun h => ⟨_, hc.2⟩⟩
  ·exact gm _ hc
 | _ => exact gm _ hc
theorem yI {id : Nat} {ops : Array Oper} {draw : Bool} {h : bG} {st : St} {K : bG → Exit → St → Prop} (hv : vc C.P C.nt (.region id ops draw) K h st) (hK : ∀ h st, K h .normal st → Q .normal st) : Ev C (.region id ops draw) Q st := by
 unfold vc at hv
 refine Cv ?_ h st hv
 intro o t h st hq
 have ha : ops = ops.toList.toArray := by simp
 cases t with
 | some tab =>
  cases draw with
  | false => exact hq.elim
  | true =>
   change Cu C.P C.nt ops.toList o tab st _ at hq
   unfold Cu at hq
   cases hb : C.P.follows .mixedOrders && ops.toList.all (fun o => !dF o) with
   | false => rw [hb] at hq; exact hq.elim
   | true =>
   cases h0 : jY tab (List.replicate ops.toList.length false) with
   | none => rw [hb, h0] at hq; exact hq.elim
   | some st0 =>
   cases h1 : jY tab (List.replicate ops.toList.length true) with
   | none => rw [hb, h0, h1] at hq; exact hq.elim
   | some st1 =>
   rw [hb, h0, h1] at hq
   simp only [Bool.and_eq_true] at hb
   obtain ⟨q1, q2, q3⟩ := hq
   rw [pB] at q3
   rw [ha]
   exact Ev.any (st' := st1) o tab hb.1 hb.2 h0 q1 h1 rfl q2 (hK _ _ q3)
 | none =>
  cases draw with
  | false =>
   obtain ⟨h1, h2⟩ := qf _ _ _ _ hq
   rw [pB] at h2
   rw [ha]
   exact Ev.regA o rfl h1 (hK _ _ h2)
  | true =>
   rw [ha]
   refine Ev.dw o (xv o [] 0 ops.toList) ?_
   have hq' : Cr C.P C.nt ops.toList o (xv o [] 0 ops.toList) st (fun st => nS st (fun st => K h .normal st)) := by simpa using hq
   exact zE hq' (fun st1 h1 => hK _ _ (by rwa [pB] at h1))
theorem rf {c : Code} (ih : ∀ (K : bG → Exit → St → Prop) (h : bG) (st : St), vc C.P C.nt c K h st → Ev C c (fun e st => ∃ h', K h' e st) st) (K : bG → Exit → St → Prop) : ∀ (n : Nat) (h : bG) (st : St) (S : Nat → Prop) (μ : Nat → Value) (a : Act) (w : World), a9 C S μ st a w →
  A8 (fun K => vc C.P C.nt c K) K n h st → Code.roundsIn (jJ C.rd) 0 C.P c (fun e a' w' => ∃ st' S' μ', (∃ h', K h' e st') ∧ a9 C S' μ' st' a' w') n a w
 | 0, h, st, S, μ, a, w, hR, hv => hv.elim
 | n + 1, h, st, S, μ, a, w, hR, hv => by
  rw [roundsIn_succ]
  refine wpIn_mono (ih _ _ _ hv a w S μ hR) ?_
  rintro e a' w' ⟨st', S', μ', ⟨h', hq⟩, hR'⟩
  cases e with
  | normal => exact rf ih K n h' st' S' μ' a' w' hR' hq
  | exit i => exact ⟨st', S', μ', ⟨h', hq⟩, hR'⟩
  | goto l => exact ⟨st', S', μ', ⟨h', hq⟩, hR'⟩
  | ret => exact ⟨st', S', μ', ⟨h', hq⟩, hR'⟩
  | panic ch => exact ⟨st', S', μ', ⟨h', hq⟩, hR'⟩
  | outgrown => exact ⟨st', S', μ', ⟨h', hq⟩, hR'⟩
theorem yJ {c : Code} (ih : ∀ (K : bG → Exit → St → Prop) (h : bG) (st : St), vc C.P C.nt c K h st → Ev C c (fun e st => ∃ h', K h' e st) st) (K : bG → Exit → St → Prop) (n : Nat) (h : bG) (st : St) (hv : A8 (fun K => vc C.P C.nt c K) K n h st) : Ev C (.loop c) (fun e st => ∃ h', K h' e st) st :=
 fun a w S μ hR => wpIn_loop_rounds n (rf ih K n h st S μ a w hR hv)
theorem rg : ∀ (c : Code) (K : bG → Exit → St → Prop) (h : bG) (st : St), vc C.P C.nt c K h st → Ev C c (fun e st => ∃ h', K h' e st) st := by
 intro c
 induction c with
 | skip => intro K h st hv; exact Ev.skip ⟨h, hv⟩
 | label l => intro K h st hv; exact Ev.label ⟨h, hv⟩
 | exit i => intro K h st hv; exact Ev.exit ⟨h, hv⟩
 | ret => intro K h st hv; exact Ev.ret ⟨h, hv⟩
 | region id ops draw => intro K h st hv; exact yI hv (fun h st hk => ⟨h, hk⟩)
 | seq x y ihx ihy =>
  intro K h st hv
  unfold vc at hv
  split at hv
  ·refine Ev.seq ((ihx _ _ _ hv).mono ?_)
   rintro e st' ⟨h', hq⟩
   cases e with
   | normal => exact ihy _ _ _ hq
   | exit i => exact ⟨h', hq⟩
   | goto l => exact ⟨h', hq⟩
   | ret => exact ⟨h', hq⟩
   | panic ch => exact ⟨h', hq⟩
   | outgrown => exact ⟨h', hq⟩
  ·cases h with
   | k id L hx hy =>
    obtain ⟨h1, h2⟩ := hv
    refine Ev.cut L.keep L.n L.mk L.inv ((ihx _ _ _ h1).mono ?_) (fun s hs => ihy _ _ _ (L.hall _ h2 s hs))
    rintro e st' ⟨h', hq⟩
    cases e with
    | normal => exact hq
    | exit i => exact ⟨h', hq⟩
    | goto l => exact ⟨h', hq⟩
    | ret => exact ⟨h', hq⟩
    | panic ch => exact ⟨h', hq⟩
    | outgrown => exact ⟨h', hq⟩
   | _ => exact hv.elim
 | cond c x y ihx ihy =>
  intro K h st hv
  unfold vc at hv
  split at hv
  ·rename_i b hb
   obtain ⟨h1, h2⟩ := zH hv
   exact Ev.cond b hb (fun hb => by obtain ⟨h', q⟩ := h1 hb; exact ihx _ _ _ q) (fun hb => by obtain ⟨h', q⟩ := h2 hb; exact ihy _ _ _ q)
  ·exact hv.elim
 | block i c ih =>
  intro K h st hv
  unfold vc at hv
  refine Ev.block ((ih _ _ _ hv).mono ?_)
  rintro e st' ⟨h', hq⟩
  cases e with
  | exit j =>
   show (if Nat.beq j i = true then _ else _)
   change (match Nat.beq j i with | true => K h' .normal st' | false => K h' (.exit j) st') at hq
   by_cases hj : Nat.beq j i = true
   ·rw [hj] at hq; rw [if_pos hj]; exact ⟨h', hq⟩
   ·rw [if_neg hj]
    simp only [Bool.not_eq_true] at hj
    rw [hj] at hq
    exact ⟨h', hq⟩
  | normal => exact ⟨h', hq⟩
  | goto l => exact ⟨h', hq⟩
  | ret => exact ⟨h', hq⟩
  | panic ch => exact ⟨h', hq⟩
  | outgrown => exact ⟨h', hq⟩
 | loop c ih =>
  intro K h st hv
  unfold vc at hv
  split at hv
  ·rename_i σ L s0 hb
   obtain ⟨h1, h2, h3⟩ := hv
   refine Ev.loop L.keep L.n L.mk L.inv L.m s0 h1 h2 ?_
   intro s hs
   refine (ih _ _ _ (L.hall _ h3 s hs)).mono ?_
   rintro e st' ⟨h', hq⟩
   cases e with
   | normal => exact hq
   | exit i => exact ⟨h', hq⟩
   | goto l => exact ⟨h', hq⟩
   | ret => exact ⟨h', hq⟩
   | panic ch => exact ⟨h', hq⟩
   | outgrown => exact ⟨h', hq⟩
  ·exact yJ ih K _ _ _ hv
  ·exact hv.elim
 | _ => intro K h st hv; exact (by unfold vc at hv; exact hv.elim)
end
def tV (P : Program) (st : St) : List ResultVar → (List D → Prop) → Prop
 | [], k => k []
 | r :: rs, k => match yA P st r with
  | (d, p) => p ∧ tV P st rs (fun ds => k (d :: ds))
theorem tW {P : Program} {st : St} : ∀ (rs : List ResultVar) (k : List D → Prop), tV P st rs k → (resL P st rs).2 ∧ k (resL P st rs).1
 | [], k, h => ⟨trivial, h⟩
 | r :: rs, k, h => by
  unfold tV at h
  unfold resL
  generalize hq : yA P st r = q at h
  obtain ⟨d, p⟩ := q
  obtain ⟨h1, h2⟩ := h
  obtain ⟨h3, h4⟩ := tW rs _ h2
  exact ⟨⟨h1, h3⟩, h4⟩
def DH (H : List ay) : D → D → Prop
 | .tup xs, .tup ys => Dp H xs ys
 | x, y => BU H x y
def El : D → D → Prop
 | .tup xs, .tup ys => Ek xs ys
 | x, y => Ci x y
def Cw : List D → D
 | [d] => d
 | ds => .tup ds
def Cx (al : Bool) (H : List ay) (x r : D) : Prop := match al with
 | true => DH H x r
 | false => DH H x r ∧ El x r
def Cy (P : Program) (fn : Func) (al : Bool) (r : D) (_ : bG) (e : Exit) (st : St) : Prop := match e with
 | .normal => tV P st fn.results.toList (fun ds => Cx al st.heap (Cw ds) r)
 | .ret => tV P st fn.results.toList (fun ds => Cx al st.heap (Cw ds) r)
 | _ => False
theorem xw {P : Program} {st : St} {rs : List ResultVar} : yB P rs st = (Cw (resL P st rs).1, (resL P st rs).2) := by
 unfold yB
 generalize resL P st rs = q
 obtain ⟨ds, p⟩ := q
 match ds with
 | [] => rfl
 | [d] => rfl
 | d :: e :: r => rfl
theorem xx {al : Bool} {H : List ay} {x r : D} (h1 : DH H x r) (h2 : al = true ∨ El x r) : tR al H x r := by
 unfold tR
 split
 ·exact ⟨h1, h2⟩
 ·rename_i hne
  have e1 : DH H x r = BU H x r := by
   unfold DH; split
   ·exact (hne _ _ rfl rfl).elim
   ·rfl
  have e2 : El x r = Ci x r := by
   unfold El; split
   ·exact (hne _ _ rfl rfl).elim
   ·rfl
  rw [e1] at h1; rw [e2] at h2
  exact ⟨h1, h2⟩
theorem xy {P : Program} {fn : Func} {al : Bool} {r : D} {h : bG} {e : Exit} {st : St} (hk : Cy P fn al r h e st) : Cj P fn al r e st := by
 have key : tV P st fn.results.toList (fun ds => Cx al st.heap (Cw ds) r) → iE P fn st ∧ tR al st.heap (lI P fn st) r := by
  intro hq
  obtain ⟨h1, h2⟩ := tW _ _ hq
  unfold iE lI
  rw [xw]
  refine ⟨h1, ?_⟩
  cases al
  ·exact xx h2.1 (.inr h2.2)
  ·exact xx h2 (.inl rfl)
 cases e with
 | normal => exact key hk
 | ret => exact key hk
 | exit i => exact hk.elim
 | goto l => exact hk.elim
 | panic ch => exact hk.elim
 | outgrown => exact hk.elim
theorem ah.vc {P : Program} {f : FuncId} {fn : Func} {c : Code} {as : List D} {al : Bool} {r : D} {V : Prop} (hint : bG) (hf : P.funcs[f]? = some fn) (hb : fn.body = some c) (hn : Nat.ble as.length fn.ntmps = true) (hr : dQ r = true)
  (hv : Proofs.Ytgfbfajaaaegjaa.vc P fn.ntmps c (Cy P fn al r) hint ⟨gU 0 as, []⟩ = V) (pf : V) : ah P f as [] al r [] := by
 refine ah.of_ev hf hb hn hr ?_
 intro C h1 h2 _
 subst h1
 rw [← hv, ← h2] at pf
 exact (rg c _ hint _ pf).mono (fun e st' ⟨h', hk⟩ => xy hk)
theorem ah.vcR {P : Program} {f : FuncId} {fn : Func} {c : Code} {as : List D} {r : D} {B : ay} {V : Prop} (hint : bG) (hf : P.funcs[f]? = some fn) (hb : fn.body = some c) (hn : Nat.ble as.length fn.ntmps = true) (hr : dQ r = true) (hB : B.isRo = true)
  (hv : Proofs.Ytgfbfajaaaegjaa.vc P fn.ntmps c (Cy P fn true r) hint ⟨gU 0 as, [B]⟩ = V) (pf : V) : ah P f as [B] true r [] := by
 refine ah.of_evR hf hb hn hr hB ?_
 intro C h1 h2 _
 subst h1
 rw [← hv, ← h2] at pf
 exact (rg c _ hint _ pf).mono (fun e st' ⟨h', hk⟩ => xy hk)
def DI (P : Program) (fn : Func) (r : D) (H : List ay) (_ : bG) (e : Exit) (st : St) : Prop := match e with
 | .normal => tV P st fn.results.toList (fun ds => tF (Cw ds) r ∧ st.heap.take H.length = H)
 | .ret => tV P st fn.results.toList (fun ds => tF (Cw ds) r ∧ st.heap.take H.length = H)
 | _ => False
theorem A9 {P : Program} {fn : Func} {r : D} {H : List ay} {h : bG} {e : Exit} {st : St} (hk : DI P fn r H h e st) : Du P fn r H e st := by
 have key : tV P st fn.results.toList (fun ds => tF (Cw ds) r ∧ st.heap.take H.length = H) → iE P fn st ∧ tF (lI P fn st) r ∧ st.heap.take H.length = H := by
  intro hq
  obtain ⟨h1, h2⟩ := tW _ _ hq
  unfold iE lI
  rw [xw]
  exact ⟨h1, h2⟩
 cases e with
 | normal => exact key hk
 | ret => exact key hk
 | exit i => exact hk.elim
 | goto l => exact hk.elim
 | panic ch => exact hk.elim
 | outgrown => exact hk.elim
theorem px.vc {P : Program} {f : FuncId} {fn : Func} {c : Code} {ds : List D} {H H' : List ay} {r : D} {V : Prop} (hint : bG) (hf : P.funcs[f]? = some fn) (hb : fn.body = some c) (hn : Nat.ble ds.length fn.ntmps = true)
  (hv : Proofs.Ytgfbfajaaaegjaa.vc P fn.ntmps c (DI P fn r H') hint ⟨gU 0 ds, H⟩ = V) (pf : V) : px P f ds H r H' := by
 refine ⟨fn, c, hf, hb, hn, ?_⟩
 intro C h1 h2 _
 subst h1
 rw [← hv, ← h2] at pf
 exact (rg c _ hint _ pf).mono (fun e st' ⟨h', hk⟩ => A9 hk)
abbrev DJ (P : Program) (g : FuncId) (ds : List D) (H : List ay) (E : List (Nat × D)) (H' N : List ay) (r : D) : Prop := ∀ tm : Array Value, px P g ds (H ++ [.frame tm E]) r (H' ++ .frame tm E :: N)
def TT : Nat → Prop → Prop
 | 0, p => p
 | n + 1, p => True ∧ TT n p
theorem tt : ∀ {n : Nat} {p : Prop}, p → TT n p
 | 0, _, h => h
 | n + 1, _, h => ⟨trivial, tt h⟩
abbrev CB (b : Bool) (x y : Prop) : Prop := (b = true → x) ∧ (b = false → y)
abbrev CD (P : Prop) [Decidable P] (x y : Prop) : Prop := CB (decide P) x y
abbrev CN (P : Prop) [Decidable P] (x y : Prop) : Prop := CB (!decide P) x y
abbrev CS (P x y : Prop) : Prop := (P → x) ∧ (¬P → y)
theorem cd {P : Prop} [Decidable P] {x y : Prop} (h1 : P → x) (h2 : ¬P → y) : CD P x y := ⟨fun h => h1 (of_decide_eq_true h), fun h => h2 (of_decide_eq_false h)⟩
theorem cn {P : Prop} [Decidable P] {x y : Prop} (h1 : ¬P → x) (h2 : P → y) : CN P x y := ⟨fun h => h1 (by simpa using h), fun h => h2 (by simpa using h)⟩
abbrev GO {σ : Type} (L : Lp σ) (s0 : σ) (body : Prop) : Prop := L.mk s0 = L.mk s0 ∧ L.inv s0 ∧ body
abbrev AG {σ : Type} (L : Lp σ) (s s' : σ) : Prop := L.ag s (L.mk s')
abbrev AT {σ : Type} (L : Lp σ) (s' : σ) : Prop := L.at (L.mk s')
theorem vT {P : Prop} [Decidable P] (h : P) : True ∧ decide P = true := ⟨trivial, decide_eq_true h⟩
theorem vF {P : Prop} [Decidable P] (h : ¬P) : True ∧ decide P = false := ⟨trivial, decide_eq_false h⟩
theorem E4 {P : Prop} [Decidable P] (h : ¬P) : (!decide P) = true := by simp [h]
theorem Dd {P : Prop} [Decidable P] (h : P) : (!decide P) = false := by simp [h]
theorem nT {P : Prop} [Decidable P] (h : ¬P) : True ∧ (!decide P) = true := ⟨trivial, E4 h⟩
theorem nF {P : Prop} [Decidable P] (h : P) : True ∧ (!decide P) = false := ⟨trivial, Dd h⟩
theorem Em {b : Bool} (h : b = true) : b = true := h
theorem E5 {b : Bool} (h : ¬b = true) : b = false := by simpa using h
theorem EB {b : Bool} (h : ¬b = true) : (!b) = true := by simpa using h
theorem rh {b : Bool} (h : b = true) : (!b) = false := by simp [h]
theorem bT {b : Bool} (h : b = true) : True ∧ b = true := ⟨trivial, h⟩
theorem bF {b : Bool} (h : ¬b = true) : True ∧ b = false := ⟨trivial, E5 h⟩
theorem mT {b : Bool} (h : ¬b = true) : True ∧ (!b) = true := ⟨trivial, EB h⟩
theorem mF {b : Bool} (h : b = true) : True ∧ (!b) = false := ⟨trivial, rh h⟩
abbrev HE (H : List ay) : Prop := H = H
abbrev IX (i n : Int) : Prop := 0 ≤ i ∧ i < n
theorem ix {i n : Int} (h : 0 ≤ i ∧ i < n := by first | omega | (simp; omega)) : IX i n := h
theorem om {p : Prop} (h : p := by first | omega | (simp; first | done | omega)) : p := h
abbrev W6 (x : Int) : Prop := True ∧ IntKind.i64.wrap x = x
theorem w6 {x : Int} (h1 : -9223372036854775808 ≤ x := by first | omega | (simp; first | done | omega)) (h2 : x ≤ 9223372036854775807 := by first | omega | (simp; first | done | omega)) : W6 x := ⟨trivial, y7 rfl h1 h2⟩
abbrev QD (a n : Int) : Prop := n ≠ 0 ∧ IntKind.i64.wrap (Int.tdiv a n) = a / n
theorem qd {a n : Int} (h0 : 0 ≤ a := by first | omega | (simp; omega)) (h1 : a ≤ 9223372036854775807 := by first | omega | (simp; omega)) (hn : 0 < n := by first | omega | (simp; omega)) : QD a n := by
 refine ⟨by omega, ?_⟩
 rw [Int.tdiv_eq_ediv_of_nonneg h0, IntKind.wrap_i64]
 have := Int.ediv_nonneg h0 (Int.le_of_lt hn)
 have := Int.ediv_le_self n h0
 omega
abbrev QM (a n : Int) : Prop := n ≠ 0 ∧ Int.tmod a n = a % n
theorem qm {a n : Int} (h0 : 0 ≤ a := by first | omega | (simp; omega)) (hn : 0 < n := by first | omega | (simp; omega)) : QM a n := ⟨by omega, Int.tmod_eq_emod_of_nonneg h0⟩
theorem ah.recast {P : Program} {f : FuncId} {as as' : List D} {al : Bool} {r : D} (h : sa [] as as') (hc : ah P f as' [] al r []) : ah P f as [] al r [] := fun S μ w us hS hH hus =>
 hc S μ w us hS hH (kJ hH (fun _ h => h) hS (.inl fun i A b hA => by simp at hA) h hus)
structure Ct : Type 1 where
 f : FuncId
 as : List D
 al : Bool
 r : D
abbrev Ct.O (c : Ct) : Ov := .call none c.al c.r
abbrev Ct.O' (c : Ct) : Ov := .call (some c.as) c.al c.r
abbrev Ct.C (P : Program) (c : Ct) : Prop := ah P c.f c.as [] c.al c.r []
abbrev Ct.K (P : Program) (c : Ct) : Prop := sa [] c.as c.as ∧ ah P c.f c.as [] c.al c.r []
structure En : Type 1 where
 f : FuncId
 as : List D
 r : D
 B : ay
abbrev En.O (c : En) : Ov := .ownd none c.r c.B
abbrev En.O' (c : En) : Ov := .ownd (some c.as) c.r c.B
structure Eo : Type 1 where
 f : FuncId
 as : List D
 r : D
 B : ay
mutual
def jZ : D → Bool
 | .v (.mp _) => false
 | .agg cs => e9 cs
 | .tup cs => e9 cs
 | .fn _ a b => e9 a && e9 b
 | _ => true
def e9 : List D → Bool
 | [] => true
 | d :: r => jZ d && e9 r
end
theorem zI : ∀ (x : V), (∀ es, x ≠ .mp es) → BS x x
 | .int k n, _ => by simp [BS]
 | .bool b, _ => rfl
 | .str s, _ => rfl
 | .nilf, _ => trivial
 | .nsl, _ => trivial
 | .esl, _ => trivial
 | .sl sz enc d l, _ => by simp [BS]
 | .mp es, h => (h es rfl).elim
theorem zJ : ∀ (x : D), jZ x = true → AR x x
 | .v x, h => zI x (fun es e => by subst e; simp [jZ] at h)
 | .nils, _ => rfl
 | .own i, _ => rfl
 | .ptr _ _ _ _, _ => rfl
 | .iptr cs o, _ => by simp [AR]
 | .agg _, _ => rfl
 | .tup _, _ => rfl
 | .fn _ _ _, _ => rfl
 | .yld _, _ => rfl
 | .capd _, _ => rfl
 | .junk, _ => trivial
theorem vi (x : D) (h : jZ x = true) : AU [] x x := by
 cases x <;> exact zJ _ h
theorem vj : ∀ (l : List D), e9 l = true → Dn [] l l
 | [], _ => trivial
 | d :: r, h => by simp only [e9, Bool.and_eq_true] at h; exact ⟨vi d h.1, vj r h.2⟩
theorem vk (x : D) (h : jZ x = true) : Db [] x x := by
 cases x <;> exact vi _ h
theorem ri : ∀ (l : List D), e9 l = true → Dq [] l l
 | [], _ => trivial
 | d :: r, h => by simp only [e9, Bool.and_eq_true] at h; exact ⟨vk d h.1, ri r h.2⟩
theorem m4 (x : D) (h : jZ x = true) : Ei [] x x := by
 cases x with
 | agg xs => exact vj _ (by simpa [jZ] using h)
 | fn f a b => simp only [jZ, Bool.and_eq_true] at h; exact ⟨rfl, ri a h.1, ri b h.2⟩
 | _ => exact vk _ h
theorem cG : ∀ (l : List D), e9 l = true → sa [] l l
 | [], _ => trivial
 | d :: r, h => by simp only [e9, Bool.and_eq_true] at h; exact ⟨m4 d h.1, cG r h.2⟩
end Go.Proofs.Ytgfbfajaaaegjaa
