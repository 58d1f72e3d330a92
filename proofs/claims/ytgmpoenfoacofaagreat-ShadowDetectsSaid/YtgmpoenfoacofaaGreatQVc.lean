/-
  What is owed of a function's code, computed: one condition for all its ways. Generic: over any program.
-/
import Derived.Test.YtgmpoenfoacofaaGreatQDr
import Derived.LoopNIn
namespace Go.Proofs.YtgmpoenfoacofaaGreat
open Go.RowKit
set_option linter.unusedVariables false
set_option linter.unusedSimpArgs false
structure Lp (σ : Type) : Type 1 where
 make ::
 keep : List Nat
 n : Nat
 all : (σ → Prop) → Prop
 hall : ∀ P, all P → ∀ s, P s
 mk : σ → St
 inv : σ → Prop
 m : σ → Nat
abbrev jO {α : Type} (keep : List Nat) (n : Nat) (mk : α → St) (inv : α → Prop) (m : α → Nat) : Lp α := ⟨keep, n, fun P => ∀ a, P a, fun _ h => h, mk, inv, m⟩
abbrev Bi {α β : Type} (keep : List Nat) (n : Nat) (mk : α → β → St) (inv : α → β → Prop) (m : α → β → Nat) : Lp (α × β) :=
 ⟨keep, n, fun P => ∀ a b, P (a, b), fun _ h ⟨a, b⟩ => h a b, fun | (a, b) => mk a b, fun | (a, b) => inv a b, fun | (a, b) => m a b⟩
abbrev GP {α β γ : Type} (keep : List Nat) (n : Nat) (mk : α → β → γ → St) (inv : α → β → γ → Prop) (m : α → β → γ → Nat) : Lp (α × β × γ) :=
 ⟨keep, n, fun P => ∀ a b c, P (a, b, c), fun _ h ⟨a, b, c⟩ => h a b c, fun | (a, b, c) => mk a b c, fun | (a, b, c) => inv a b c, fun | (a, b, c) => m a b c⟩
abbrev Jh {α β γ δ : Type} (keep : List Nat) (n : Nat) (mk : α → β → γ → δ → St) (inv : α → β → γ → δ → Prop) (m : α → β → γ → δ → Nat) : Lp (α × β × γ × δ) :=
 ⟨keep, n, fun P => ∀ a b c d, P (a, b, c, d), fun _ h ⟨a, b, c, d⟩ => h a b c d, fun | (a, b, c, d) => mk a b c d, fun | (a, b, c, d) => inv a b c d, fun | (a, b, c, d) => m a b c d⟩
abbrev Ji {α β γ δ ε : Type} (keep : List Nat) (n : Nat) (mk : α → β → γ → δ → ε → St) (inv : α → β → γ → δ → ε → Prop) (m : α → β → γ → δ → ε → Nat) : Lp (α × β × γ × δ × ε) :=
 ⟨keep, n, fun P => ∀ a b c d e, P (a, b, c, d, e), fun _ h ⟨a, b, c, d, e⟩ => h a b c d e, fun | (a, b, c, d, e) => mk a b c d e, fun | (a, b, c, d, e) => inv a b c d e, fun | (a, b, c, d, e) => m a b c d e⟩
def Lp.ag {σ : Type} (L : Lp σ) (s : σ) (st : St) : Prop := ∃ s', st = L.mk s' ∧ L.inv s' ∧ L.m s' < L.m s
def Lp.at {σ : Type} (L : Lp σ) (st : St) : Prop := ∃ s', st = L.mk s' ∧ L.inv s'
inductive bw : Type 1
 | e
 | w (id : Nat) (o : List (Nat × Ov)) (h : bw)
 | q (id : Nat) (keep : List Nat) (n : Nat) (h : bw)
 | f (id b : Nat) (h : bw)
 | g (id i j E sz : Nat) {α : Type} (enc : α → List V) (d : α) (h : bw)
 | gs (id t E sz : Nat) {α : Type} (enc : α → List V) (d : α) (h : bw)
 | mv (id j i : Nat) (h : bw)
 | s (id : Nat) (P : Prop) (x y : bw)
 | y (id : Nat) (o : List (Nat × Ov)) (tab : w9) (h : bw)
 | c (t : Nat) (P : Prop) [i : Decidable P] (x y : bw)
 | n (t : Nat) (P : Prop) [i : Decidable P] (x y : bw)
 | b (t : Nat) (x y : bw)
 | t (t : Nat) (x : bw)
 | u (t : Nat) (x : bw)
 | l {σ : Type} (L : Lp σ) (s0 : σ) (h : σ → bw)
 | r (n : Nat) (h : bw)
 | k (id : Nat) {σ : Type} (L : Lp σ) (x : bw) (h : σ → bw)
def GQ (o : Oper) : Bool := match o.op with
 | .store _ _ _ => true
 | .call ⟨.builtin .append, _, _⟩ => true
 | .call ⟨.builtin .copy, _, _⟩ => true
 | _ => false
def GR : Ov → Bool
 | .inl _ _ _ => true
 | .inls _ => true
 | _ => false
def GS : Ov → Bool
 | .app _ _ _ _ _ _ => true
 | _ => false
def GT : Ov → Bool
 | .val .junk => true
 | _ => false
def yz (ovs : List (Nat × Ov)) : List Nat → Nat → List Oper → Nat
 | _, _, [] => 0
 | rd, i, o :: r => if (GQ o && !(GS (iO ovs i) || GT (iO ovs i))) || GR (iO ovs i) || (match o.dst with | some t => rd.any (fun s => Nat.beq t s) | none => false) then 0 else yz ovs (oa o.op ++ rd) (i + 1) r + 1
def Fm (P : Program) (nt : Nat) (ops : List Oper) (ovs : List (Nat × Ov)) (tab : w9) (st : St) (k : St → Prop) : Prop :=
 match P.follows .mixedOrders && ops.all (fun o => !db o), jN tab (List.replicate ops.length false), jN tab (List.replicate ops.length true) with
 | true, some st0, some st1 => xc st st0 = st0 ∧ Dm P nt ops ovs tab tab ∧ nS st1 k
 | _, _, _ => False
def pre (id : Nat) : bw → St → (List (Nat × Ov) → Option w9 → bw → St → Prop) → Prop
 | .w i o h, st, k => match Nat.beq i id with
  | true => k o none h st
  | false => k [] none (.w i o h) st
 | .y i o t h, st, k => match Nat.beq i id with
  | true => k o (some t) h st
  | false => k [] none (.y i o t h) st
 | .q i kp n h, st, k => match Nat.beq i id with
  | true => nS (keepS kp n st) (fun st' => pre id h st' k)
  | false => k [] none (.q i kp n h) st
 | .f i b h, st, k => match Nat.beq i id with
  | true => match ku b st with
   | some st' => nS st' (fun st' => pre id h st' k)
   | none => False
  | false => k [] none (.f i b h) st
 | .g i a j E sz enc d h, st, k => match Nat.beq i id with
  | true => match w8 a j E sz enc d st with
   | some st' => nS st' (fun st' => pre id h st' k)
   | none => False
  | false => k [] none (.g i a j E sz enc d h) st
 | .gs i t E sz enc d h, st, k => match Nat.beq i id with
  | true => match adoptE t E sz enc d st with
   | some st' => nS st' (fun st' => pre id h st' k)
   | none => False
  | false => k [] none (.gs i t E sz enc d h) st
 | .mv i j a h, st, k => match Nat.beq i id with
  | true => match ym j a st with
   | some st' => nS st' (fun st' => pre id h st' k)
   | none => False
  | false => k [] none (.mv i j a h) st
 | .s i P x y, st, k => match Nat.beq i id with
  | true => (P → pre id x st k) ∧ (¬P → pre id y st k)
  | false => k [] none (.s i P x y) st
 | h, st, k => k [] none h st
def GU : Operand → Nat
 | .tmp t => t + 1
 | _ => 0
def qX (t : Nat) (b : Bool) (X Y : bw → Prop) : bw → Prop
 | @bw.c t' P i x y => match Nat.beq (t' + 1) t with
  | true => b = @decide P i ∧ (P → X x) ∧ (¬P → Y y)
  | false => match b with | true => X (@bw.c t' P i x y) | false => Y (@bw.c t' P i x y)
 | @bw.n t' P i x y => match Nat.beq (t' + 1) t with
  | true => b = (!@decide P i) ∧ (¬P → X x) ∧ (P → Y y)
  | false => match b with | true => X (@bw.n t' P i x y) | false => Y (@bw.n t' P i x y)
 | .b t' x y => match Nat.beq (t' + 1) t with
  | true => (b = true → X x) ∧ (b = false → Y y)
  | false => match b with | true => X (.b t' x y) | false => Y (.b t' x y)
 | .t t' x => match Nat.beq (t' + 1) t with
  | true => b = true ∧ X x
  | false => match b with | true => X (.t t' x) | false => Y (.t t' x)
 | .u t' x => match Nat.beq (t' + 1) t with
  | true => b = false ∧ Y x
  | false => match b with | true => X (.u t' x) | false => Y (.u t' x)
 | h => match b with | true => X h | false => Y h
def Dt : Code → Option Nat
 | .region id _ _ => some id
 | .seq a _ => Dt a
 | .block _ a => Dt a
 | .loop a => Dt a
 | _ => none
def GV (x : Code) : bw → Bool
 | .k id _ _ _ => match Dt x with | some i => Nat.beq i id | none => false
 | _ => false
@[reducible] def kSeq (n : bw → St → Prop) (K : bw → Exit → St → Prop) (h : bw) (e : Exit) (st : St) : Prop := match e with
 | .normal => n h st
 | e => K h e st
@[reducible] def kBlock (id : Nat) (K : bw → Exit → St → Prop) (h : bw) (e : Exit) (st : St) : Prop := match e with
 | .exit i => match Nat.beq i id with | true => K h .normal st | false => K h (.exit i) st
 | e => K h e st
def Du (body : (bw → Exit → St → Prop) → bw → St → Prop) (K : bw → Exit → St → Prop) : Nat → bw → St → Prop
 | 0, _, _ => False
 | n + 1, h, st => body (fun h' e st' => match e with | .normal => Du body K n h' st' | e => K h' e st') h st
def vc (P : Program) (nt : Nat) : Code → (bw → Exit → St → Prop) → bw → St → Prop
 | .skip, K, h, st => K h .normal st
 | .label _, K, h, st => K h .normal st
 | .exit i, K, h, st => K h (.exit i) st
 | .ret, K, h, st => K h .ret st
 | .seq x y, K, h, st => match GV x h with
  | false => vc P nt x (kSeq (vc P nt y K) K) h st
  | true => match h with
   | .k _ L hx hy => vc P nt x (fun h' e st' => match e with | .normal => L.at (keepS L.keep L.n st') | e => K h' e st') hx st ∧ L.all (fun s => L.inv s → vc P nt y K (hy s) (L.mk s))
   | _ => False
 | .block i c, K, h, st => vc P nt c (kBlock i K) h st
 | .cond c x y, K, h, st => match ex st.env c with
  | .v (.bool b) => qX (GU c) b (fun h => vc P nt x K h st) (fun h => vc P nt y K h st) h
  | _ => False
 | .loop c, K, h, st => match h with
  | .l L s0 hb => keepS L.keep L.n st = L.mk s0 ∧ L.inv s0 ∧ L.all (fun s => L.inv s → vc P nt c (fun h' e st' => match e with | .normal => L.ag s (keepS L.keep L.n st') | e => K h' e st') (hb s) (L.mk s))
  | .r n h => Du (fun K => vc P nt c K) K n h st
  | _ => False
 | .region id ops draw, K, h, st => pre id h st fun o t h st => match t with
  | some tab => match draw with
   | true => Fm P nt ops.toList o tab st (fun st => K h .normal st)
   | false => False
  | none => match draw with
   | false => su P nt ops.toList o 0 ops.toList st (fun st => nS st (fun st => K h .normal st))
   | true => Fl P nt ops.toList o (yz o [] 0 ops.toList) st (fun st => nS st (fun st => K h .normal st))
 | _, _, _, _ => False
section
variable {C : iH} {Q : Exit → St → Prop}
theorem Ev.regA {st st' : St} {id : Nat} {ops : List Oper} (ovs : List (Nat × Ov)) {p : Prop} (h : cZ C.P C.nt ops ovs 0 ops st = (st', p)) (hp : p) (hq : Q .normal st') : Ev C (.region id ops.toArray false) Q st := fun a w S μ hR =>
 wpIn_region_lit (iP ops 0 st S μ a w p hR h hp (fun S' μ' a' w' hR' => ⟨_, S', μ', hq, hR'⟩))
theorem Fo {id : Nat} {c : Code} {k : List (Nat × Ov) → Option w9 → bw → St → Prop} (hk : ∀ o t h st, k o t h st → Ev C c Q st) : ∀ (h : bw) (st : St), pre id h st k → Ev C c Q st := by
 intro h
 induction h with
 | w i o h ih => intro st hp; unfold pre at hp; split at hp <;> exact hk _ _ _ _ hp
 | y i o t h ih => intro st hp; unfold pre at hp; split at hp <;> exact hk _ _ _ _ hp
 | q i kp n h ih =>
  intro st hp; unfold pre at hp; split at hp
  ·rw [pj] at hp; exact Ev.keep kp n rfl (ih _ hp)
  ·exact hk _ _ _ _ hp
 | f i b h ih =>
  intro st hp; unfold pre at hp; split at hp
  ·split at hp
   ·rename_i st' hf; rw [pj] at hp; exact Ev.freeze b hf (ih _ hp)
   ·exact hp.elim
  ·exact hk _ _ _ _ hp
 | g i a j E sz enc d h ih =>
  intro st hp; unfold pre at hp; split at hp
  ·split at hp
   ·rename_i st' hf; rw [pj] at hp; exact Ev.adopt a j E sz enc d hf (ih _ hp)
   ·exact hp.elim
  ·exact hk _ _ _ _ hp
 | gs i t E sz enc d h ih =>
  intro st hp; unfold pre at hp; split at hp
  ·split at hp
   ·rename_i st' hf; rw [pj] at hp; exact Ev.adoptE t E sz enc d hf (ih _ hp)
   ·exact hp.elim
  ·exact hk _ _ _ _ hp
 | mv i j a h ih =>
  intro st hp; unfold pre at hp; split at hp
  ·split at hp
   ·rename_i st' hf; rw [pj] at hp; exact Ev.move j a hf (ih _ hp)
   ·exact hp.elim
  ·exact hk _ _ _ _ hp
 | s i P x y ih1 ih2 =>
  intro st hp; unfold pre at hp; split at hp
  ·by_cases hP : P
   ·exact ih1 _ (hp.1 hP)
   ·exact ih2 _ (hp.2 hP)
  ·exact hk _ _ _ _ hp
 | _ => intro st hp; unfold pre at hp; exact hk _ _ _ _ hp
theorem fG {b : Bool} {X Y : bw → Prop} (h : bw) (hh : match b with | true => X h | false => Y h) : (b = true → ∃ h', X h') ∧ (b = false → ∃ h', Y h') := by
 cases b
 ·exact ⟨fun h => (by cases h), fun _ => ⟨_, hh⟩⟩
 ·exact ⟨fun _ => ⟨_, hh⟩, fun h => (by cases h)⟩
theorem Bj {t : Nat} {b : Bool} {X Y : bw → Prop} {h : bw} (hc : qX t b X Y h) : (b = true → ∃ h', X h') ∧ (b = false → ∃ h', Y h') := by
 cases h with
 | c t' P x y =>
  simp only [qX] at hc; split at hc
  ·obtain ⟨h1, h2, h3⟩ := hc
   subst h1
   exact ⟨fun h => ⟨_, h2 (of_decide_eq_true h)⟩, fun h => ⟨_, h3 (of_decide_eq_false h)⟩⟩
  ·exact fG _ hc
 | n t' P x y =>
  simp only [qX] at hc; split at hc
  ·obtain ⟨h1, h2, h3⟩ := hc
   subst h1
   exact ⟨fun h => ⟨_, h2 (by simpa using h)⟩, fun h => ⟨_, h3 (by simpa using h)⟩⟩
  ·exact fG _ hc
 | b t' x y =>
  simp only [qX] at hc; split at hc
  ·exact ⟨fun h => ⟨_, hc.1 h⟩, fun h => ⟨_, hc.2 h⟩⟩
  ·exact fG _ hc
 | t t' x =>
  simp only [qX] at hc; split at hc
  ·exact ⟨fun h => ⟨_, hc.2⟩, fun h => (by rw [hc.1] at h; cases h)⟩
  ·exact fG _ hc
 | u t' x =>
  simp only [qX] at hc; split at hc
  ·exact ⟨fun h => (by rw [hc.1] at h; cases h), fun h => ⟨_, hc.2⟩⟩
  ·exact fG _ hc
 | _ => exact fG _ hc
theorem zO {id : Nat} {ops : Array Oper} {draw : Bool} {h : bw} {st : St} {K : bw → Exit → St → Prop} (hv : vc C.P C.nt (.region id ops draw) K h st) (hK : ∀ h st, K h .normal st → Q .normal st) : Ev C (.region id ops draw) Q st := by
 unfold vc at hv
 refine Fo ?_ h st hv
 intro o t h st hq
 have ha : ops = ops.toList.toArray := by simp
 cases t with
 | some tab =>
  cases draw with
  | false => exact hq.elim
  | true =>
   change Fm C.P C.nt ops.toList o tab st _ at hq
   unfold Fm at hq
   cases hb : C.P.follows .mixedOrders && ops.toList.all (fun o => !db o) with
   | false => rw [hb] at hq; exact hq.elim
   | true =>
   cases h0 : jN tab (List.replicate ops.toList.length false) with
   | none => rw [hb, h0] at hq; exact hq.elim
   | some st0 =>
   cases h1 : jN tab (List.replicate ops.toList.length true) with
   | none => rw [hb, h0, h1] at hq; exact hq.elim
   | some st1 =>
   rw [hb, h0, h1] at hq
   simp only [Bool.and_eq_true] at hb
   obtain ⟨q1, q2, q3⟩ := hq
   rw [pj] at q3
   rw [ha]
   exact Ev.any (st' := st1) o tab hb.1 hb.2 h0 q1 h1 rfl q2 (hK _ _ q3)
 | none =>
  cases draw with
  | false =>
   obtain ⟨h1, h2⟩ := pX _ _ _ _ hq
   rw [pj] at h2
   rw [ha]
   exact Ev.regA o rfl h1 (hK _ _ h2)
  | true =>
   rw [ha]
   refine Ev.dw o (yz o [] 0 ops.toList) ?_
   have hq' : Fl C.P C.nt ops.toList o (yz o [] 0 ops.toList) st (fun st => nS st (fun st => K h .normal st)) := by simpa using hq
   exact Bf hq' (fun st1 h1 => hK _ _ (by rwa [pj] at h1))
theorem qY {c : Code} (ih : ∀ (K : bw → Exit → St → Prop) (h : bw) (st : St), vc C.P C.nt c K h st → Ev C c (fun e st => ∃ h', K h' e st) st) (K : bw → Exit → St → Prop) : ∀ (n : Nat) (h : bw) (st : St) (S : Nat → Prop) (μ : Nat → Value) (a : Act) (w : World), aZ C S μ st a w →
  Du (fun K => vc C.P C.nt c K) K n h st → Code.roundsIn (jo C.rd) 0 C.P c (fun e a' w' => ∃ st' S' μ', (∃ h', K h' e st') ∧ aZ C S' μ' st' a' w') n a w
 | 0, h, st, S, μ, a, w, hR, hv => hv.elim
 | n + 1, h, st, S, μ, a, w, hR, hv => by
  rw [roundsIn_succ]
  refine wpIn_mono (ih _ _ _ hv a w S μ hR) ?_
  rintro e a' w' ⟨st', S', μ', ⟨h', hq⟩, hR'⟩
  cases e with
  | normal => exact qY ih K n h' st' S' μ' a' w' hR' hq
  | exit i => exact ⟨st', S', μ', ⟨h', hq⟩, hR'⟩
  | goto l => exact ⟨st', S', μ', ⟨h', hq⟩, hR'⟩
  | ret => exact ⟨st', S', μ', ⟨h', hq⟩, hR'⟩
  | panic ch => exact ⟨st', S', μ', ⟨h', hq⟩, hR'⟩
  | outgrown => exact ⟨st', S', μ', ⟨h', hq⟩, hR'⟩
theorem zP {c : Code} (ih : ∀ (K : bw → Exit → St → Prop) (h : bw) (st : St), vc C.P C.nt c K h st → Ev C c (fun e st => ∃ h', K h' e st) st) (K : bw → Exit → St → Prop) (n : Nat) (h : bw) (st : St) (hv : Du (fun K => vc C.P C.nt c K) K n h st) : Ev C (.loop c) (fun e st => ∃ h', K h' e st) st :=
 fun a w S μ hR => wpIn_loop_rounds n (qY ih K n h st S μ a w hR hv)
theorem qZ : ∀ (c : Code) (K : bw → Exit → St → Prop) (h : bw) (st : St), vc C.P C.nt c K h st → Ev C c (fun e st => ∃ h', K h' e st) st := by
 intro c
 induction c with
 | skip => intro K h st hv; exact Ev.skip ⟨h, hv⟩
 | label l => intro K h st hv; exact Ev.label ⟨h, hv⟩
 | exit i => intro K h st hv; exact Ev.exit ⟨h, hv⟩
 | ret => intro K h st hv; exact Ev.ret ⟨h, hv⟩
 | region id ops draw => intro K h st hv; exact zO hv (fun h st hk => ⟨h, hk⟩)
 | seq x y ihx ihy =>
  intro K h st hv
  unfold vc at hv
  split at hv
  ·refine Ev.seq ((ihx _ _ _ hv).mono ?_)
   rintro e st' ⟨h', hq⟩
   cases e with
   | normal => exact ihy _ _ _ hq
   | exit i => exact ⟨h', hq⟩
   | goto l => exact ⟨h', hq⟩
   | ret => exact ⟨h', hq⟩
   | panic ch => exact ⟨h', hq⟩
   | outgrown => exact ⟨h', hq⟩
  ·cases h with
   | k id L hx hy =>
    obtain ⟨h1, h2⟩ := hv
    refine Ev.cut L.keep L.n L.mk L.inv ((ihx _ _ _ h1).mono ?_) (fun s hs => ihy _ _ _ (L.hall _ h2 s hs))
    rintro e st' ⟨h', hq⟩
    cases e with
    | normal => exact hq
    | exit i => exact ⟨h', hq⟩
    | goto l => exact ⟨h', hq⟩
    | ret => exact ⟨h', hq⟩
    | panic ch => exact ⟨h', hq⟩
    | outgrown => exact ⟨h', hq⟩
   | _ => exact hv.elim
 | cond c x y ihx ihy =>
  intro K h st hv
  unfold vc at hv
  split at hv
  ·rename_i b hb
   obtain ⟨h1, h2⟩ := Bj hv
   exact Ev.cond b hb (fun hb => by obtain ⟨h', q⟩ := h1 hb; exact ihx _ _ _ q) (fun hb => by obtain ⟨h', q⟩ := h2 hb; exact ihy _ _ _ q)
  ·exact hv.elim
 | block i c ih =>
  intro K h st hv
  unfold vc at hv
  refine Ev.block ((ih _ _ _ hv).mono ?_)
  rintro e st' ⟨h', hq⟩
  cases e with
  | exit j =>
   show (if Nat.beq j i = true then _ else _)
   change (match Nat.beq j i with | true => K h' .normal st' | false => K h' (.exit j) st') at hq
   by_cases hj : Nat.beq j i = true
   ·rw [hj] at hq; rw [if_pos hj]; exact ⟨h', hq⟩
   ·rw [if_neg hj]
    simp only [Bool.not_eq_true] at hj
    rw [hj] at hq
    exact ⟨h', hq⟩
  | normal => exact ⟨h', hq⟩
  | goto l => exact ⟨h', hq⟩
  | ret => exact ⟨h', hq⟩
  | panic ch => exact ⟨h', hq⟩
  | outgrown => exact ⟨h', hq⟩
 | loop c ih =>
  intro K h st hv
  unfold vc at hv
  split at hv
  ·rename_i σ L s0 hb
   obtain ⟨h1, h2, h3⟩ := hv
   refine Ev.loop L.keep L.n L.mk L.inv L.m s0 h1 h2 ?_
   intro s hs
   refine (ih _ _ _ (L.hall _ h3 s hs)).mono ?_
   rintro e st' ⟨h', hq⟩
   cases e with
   | normal => exact hq
   | exit i => exact ⟨h', hq⟩
   | goto l => exact ⟨h', hq⟩
   | ret => exact ⟨h', hq⟩
   | panic ch => exact ⟨h', hq⟩
   | outgrown => exact ⟨h', hq⟩
  ·exact zP ih K _ _ _ hv
  ·exact hv.elim
 | _ => intro K h st hv; exact (by unfold vc at hv; exact hv.elim)
end
def pO (P : Program) (st : St) : List ResultVar → (List D → Prop) → Prop
 | [], k => k []
 | r :: rs, k => match zF P st r with
  | (d, p) => p ∧ pO P st rs (fun ds => k (d :: ds))
theorem p5 {P : Program} {st : St} : ∀ (rs : List ResultVar) (k : List D → Prop), pO P st rs k → (resL P st rs).2 ∧ k (resL P st rs).1
 | [], k, h => ⟨trivial, h⟩
 | r :: rs, k, h => by
  unfold pO at h
  unfold resL
  generalize hq : zF P st r = q at h
  obtain ⟨d, p⟩ := q
  obtain ⟨h1, h2⟩ := h
  obtain ⟨h3, h4⟩ := p5 rs _ h2
  exact ⟨⟨h1, h3⟩, h4⟩
def GW (H : List au) : D → D → Prop
 | .tup xs, .tup ys => GD H xs ys
 | x, y => EI H x y
def HK : D → D → Prop
 | .tup xs, .tup ys => HJ xs ys
 | x, y => Fa x y
def Bk : List D → D
 | [d] => d
 | ds => .tup ds
def Fp (al : Bool) (H : List au) (x r : D) : Prop := match al with
 | true => GW H x r
 | false => GW H x r ∧ HK x r
def GX (P : Program) (fn : Func) (al : Bool) (r : D) (_ : bw) (e : Exit) (st : St) : Prop := match e with
 | .normal => pO P st fn.results.toList (fun ds => Fp al st.heap (Bk ds) r)
 | .ret => pO P st fn.results.toList (fun ds => Fp al st.heap (Bk ds) r)
 | _ => False
theorem uu {P : Program} {st : St} {rs : List ResultVar} : zG P rs st = (Bk (resL P st rs).1, (resL P st rs).2) := by
 unfold zG
 generalize resL P st rs = q
 obtain ⟨ds, p⟩ := q
 match ds with
 | [] => rfl
 | [d] => rfl
 | d :: e :: r => rfl
theorem yA {al : Bool} {H : List au} {x r : D} (h1 : GW H x r) (h2 : al = true ∨ HK x r) : uo al H x r := by
 unfold uo
 split
 ·exact ⟨h1, h2⟩
 ·rename_i hne
  have e1 : GW H x r = EI H x r := by
   unfold GW; split
   ·exact (hne _ _ rfl rfl).elim
   ·rfl
  have e2 : HK x r = Fa x r := by
   unfold HK; split
   ·exact (hne _ _ rfl rfl).elim
   ·rfl
  rw [e1] at h1; rw [e2] at h2
  exact ⟨h1, h2⟩
theorem Dv {P : Program} {fn : Func} {al : Bool} {r : D} {h : bw} {e : Exit} {st : St} (hk : GX P fn al r h e st) : Fb P fn al r e st := by
 have key : pO P st fn.results.toList (fun ds => Fp al st.heap (Bk ds) r) → eX P fn st ∧ uo al st.heap (fe P fn st) r := by
  intro hq
  obtain ⟨h1, h2⟩ := p5 _ _ hq
  unfold eX fe
  rw [uu]
  refine ⟨h1, ?_⟩
  cases al
  ·exact yA h2.1 (.inr h2.2)
  ·exact yA h2 (.inl rfl)
 cases e with
 | normal => exact key hk
 | ret => exact key hk
 | exit i => exact hk.elim
 | goto l => exact hk.elim
 | panic ch => exact hk.elim
 | outgrown => exact hk.elim
theorem af.vc {P : Program} {f : FuncId} {fn : Func} {c : Code} {as : List D} {al : Bool} {r : D} {V : Prop} (hint : bw) (hf : P.funcs[f]? = some fn) (hb : fn.body = some c) (hn : Nat.ble as.length fn.ntmps = true) (hr : dG r = true)
  (hv : Proofs.YtgmpoenfoacofaaGreat.vc P fn.ntmps c (GX P fn al r) hint ⟨fo 0 as, []⟩ = V) (pf : V) : af P f as [] al r [] := by
 refine af.of_ev hf hb hn hr ?_
 intro C h1 h2 _
 subst h1
 rw [← hv, ← h2] at pf
 exact (qZ c _ hint _ pf).mono (fun e st' ⟨h', hk⟩ => Dv hk)
def GY (P : Program) (fn : Func) (r : D) (H : List au) (_ : bw) (e : Exit) (st : St) : Prop := match e with
 | .normal => pO P st fn.results.toList (fun ds => sj (Bk ds) r ∧ st.heap.take H.length = H)
 | .ret => pO P st fn.results.toList (fun ds => sj (Bk ds) r ∧ st.heap.take H.length = H)
 | _ => False
theorem Dw {P : Program} {fn : Func} {r : D} {H : List au} {h : bw} {e : Exit} {st : St} (hk : GY P fn r H h e st) : GI P fn r H e st := by
 have key : pO P st fn.results.toList (fun ds => sj (Bk ds) r ∧ st.heap.take H.length = H) → eX P fn st ∧ sj (fe P fn st) r ∧ st.heap.take H.length = H := by
  intro hq
  obtain ⟨h1, h2⟩ := p5 _ _ hq
  unfold eX fe
  rw [uu]
  exact ⟨h1, h2⟩
 cases e with
 | normal => exact key hk
 | ret => exact key hk
 | exit i => exact hk.elim
 | goto l => exact hk.elim
 | panic ch => exact hk.elim
 | outgrown => exact hk.elim
theorem fV.vc {P : Program} {f : FuncId} {fn : Func} {c : Code} {ds : List D} {H H' : List au} {r : D} {V : Prop} (hint : bw) (hf : P.funcs[f]? = some fn) (hb : fn.body = some c) (hn : Nat.ble ds.length fn.ntmps = true)
  (hv : Proofs.YtgmpoenfoacofaaGreat.vc P fn.ntmps c (GY P fn r H') hint ⟨fo 0 ds, H⟩ = V) (pf : V) : fV P f ds H r H' := by
 refine ⟨fn, c, hf, hb, hn, ?_⟩
 intro C h1 h2 _
 subst h1
 rw [← hv, ← h2] at pf
 exact (qZ c _ hint _ pf).mono (fun e st' ⟨h', hk⟩ => Dw hk)
def ra : au → Prop
 | .arr _ _ _ _ l => l = []
 | _ => False
def EP : Option au → au → Prop
 | some B', B => B' = B
 | none, _ => False
def Dx (H : List au) (x r : D) (B : au) : Prop := match x with
 | .nils => r = .own 0 ∧ ra B
 | .own i => r = .own 0 ∧ EP H[i]? B
 | x => ∃ id, H[id]? = some B ∧ xg id x r
def ER (P : Program) (fn : Func) (r : D) (B : au) (_ : bw) (e : Exit) (st : St) : Prop := match e with
 | .normal => pO P st fn.results.toList (fun ds => Dx st.heap (Bk ds) r B)
 | .ret => pO P st fn.results.toList (fun ds => Dx st.heap (Bk ds) r B)
 | _ => False
def Bl (P : Program) (fn : Func) (r : D) (B : au) : Exit → St → Prop
 | .normal, st => eX P fn st ∧ ((∃ id, st.heap[id]? = some B ∧ xg id (fe P fn st) r) ∨ (fe P fn st = .nils ∧ r = .own 0 ∧ ra B))
 | .ret, st => eX P fn st ∧ ((∃ id, st.heap[id]? = some B ∧ xg id (fe P fn st) r) ∨ (fe P fn st = .nils ∧ r = .own 0 ∧ ra B))
 | _, _ => False
theorem Bm {P : Program} {fn : Func} {r : D} {B : au} {h : bw} {e : Exit} {st : St} (hk : ER P fn r B h e st) : Bl P fn r B e st := by
 have key : pO P st fn.results.toList (fun ds => Dx st.heap (Bk ds) r B) → eX P fn st ∧ ((∃ id, st.heap[id]? = some B ∧ xg id (fe P fn st) r) ∨ (fe P fn st = .nils ∧ r = .own 0 ∧ ra B)) := by
  intro hq
  obtain ⟨h1, h2⟩ := p5 _ _ hq
  unfold eX fe
  rw [uu]
  refine ⟨h1, ?_⟩
  generalize Bk (resL P st fn.results.toList).1 = x at h2 ⊢
  unfold Dx at h2
  split at h2
  ·exact .inr ⟨rfl, h2⟩
  ·rename_i i
   obtain ⟨rfl, h2⟩ := h2
   unfold EP at h2
   split at h2
   ·rename_i B' hB'
    subst h2
    exact .inl ⟨i, hB', rfl, rfl⟩
   ·exact h2.elim
  ·exact .inl h2
 cases e with
 | normal => exact key hk
 | ret => exact key hk
 | exit i => exact hk.elim
 | goto l => exact hk.elim
 | panic ch => exact hk.elim
 | outgrown => exact hk.elim
theorem af.of_evO' {P : Program} {f : FuncId} {fn : Func} {c : Code} {as : List D} {r : D} {B : au} (hf : P.funcs[f]? = some fn) (hb : fn.body = some c) (hn : Nat.ble as.length fn.ntmps = true) (hB : B.isArr = true)
  (h : ∀ C : iH, C.P = P → C.nt = fn.ntmps → C.rd = none → Ev C c (Bl P fn r B) ⟨fo 0 as, []⟩) : af P f as [] false r [B] := by
 intro S μ w us hS hH hus
 rw [Nat.ble_eq] at hn
 let C : iH := ⟨P, w, S, fn.ntmps, [], none⟩
 have hrel : aZ C S μ ⟨fo 0 as, []⟩ (pc us fn.ntmps) w :=
  ⟨rfl, rfl, rfl, Nat.le_refl _, fun _ _ => rfl, fun _ h => h, fun _ h => .inl h, hS, mC hus hn, ⟨fun id B hB => by simp at hB, fun i j A B b hA => by simp at hA, fun i A b hA => by simp at hA⟩, fun i A b hA => by simp at hA, ⟨[], rfl, by simp [C], fun b hb => by simp [C] at hb⟩, jI hus.1 hn, fun i A b hA => by simp at hA⟩
 refine (eY (C := C) hf hb rfl hrel (h C rfl rfl rfl) (fun e st' hq => ?_)).mono ?_
 ·cases e <;> first | exact ⟨.inl rfl, hq.1⟩ | exact ⟨.inr rfl, hq.1⟩ | exact hq.elim
 rintro e w' ⟨u, e0, st', S', μ', a', rfl, hq, hR, hx⟩
 have hq : (∃ id, st'.heap[id]? = some B ∧ xg id (fe P fn st') r) ∨ (fe P fn st' = .nils ∧ r = .own 0 ∧ ra B) := by
  cases e0 <;> first | exact hq.2 | exact hq.elim
 have hl : B.live = true := by cases B <;> first | rfl | cases hB
 have one : ∀ (i : Nat) (A : au), [B][i]? = some A → i = 0 ∧ A = B := by
  intro i A hA
  match i with
  | 0 => simp at hA; exact ⟨rfl, hA.symm⟩
  | i + 1 => simp at hA
 rcases hq with ⟨id, hid, hr⟩ | ⟨hn0, rfl, hem⟩
 ·refine ⟨u, fun _ => μ' id, S', rfl, hR.os, hR.tape, hR.output, hR.size, fun k hk _ => hR.old k hk, hR.mono, hR.new, hR.slt, A7 hx hr, ⟨?_, ?_, ?_⟩, ?_, fun i A hA => by simp at hA⟩
  ·intro i A hA
   obtain ⟨rfl, rfl⟩ := one i A hA
   refine (hR.heap.box id _ hid).stable (fun _ h _ => h) (fun _ _ _ => rfl) (Nat.le_refl _) (fun j hj => ?_) (fun _ _ => rfl)
   cases A <;> first | (cases hB; done) | cases hj
  ·intro i j A A' b hA hA' _ _ _ _
   rw [(one i A hA).1, (one j A' hA').1]
  ·intro i A b hA la hb
   obtain ⟨rfl, rfl⟩ := one i A hA
   exact hR.heap.notS id _ b hid hl hb
  ·intro i A b hA la hb
   obtain ⟨rfl, rfl⟩ := one i A hA
   exact .inl (hR.may id _ b hid hl hb)
 ·rw [hn0] at hx
  cases hx
  refine ⟨_, fun _ => .slice none 0 0, S', rfl, hR.os, hR.tape, hR.output, hR.size, fun k hk _ => hR.old k hk, hR.mono, hR.new, hR.slt, ak.own (μ := fun _ => .slice none 0 0) 0, ⟨?_, ?_, ?_⟩, ?_, fun i A hA => by simp at hA⟩
  ·intro i A hA
   obtain ⟨rfl, rfl⟩ := one i A hA
   cases A <;> first | cases hem | skip
   exact ⟨fun i x hx => by simp at hx, [], World.ownsRow_nil w' 0 _ _, fun i x j y hx => by simp at hx⟩
  ·intro i j A A' b hA hA' _ _ _ _
   rw [(one i A hA).1, (one j A' hA').1]
  ·intro i A b hA la hb
   simp [ap] at hb
  ·intro i A b hA la hb
   simp [ap] at hb
theorem af.vcO {P : Program} {f : FuncId} {fn : Func} {c : Code} {as : List D} {r : D} {B : au} {V : Prop} (hint : bw) (hf : P.funcs[f]? = some fn) (hb : fn.body = some c) (hn : Nat.ble as.length fn.ntmps = true) (hB : B.isArr = true)
  (hv : Proofs.YtgmpoenfoacofaaGreat.vc P fn.ntmps c (ER P fn r B) hint ⟨fo 0 as, []⟩ = V) (pf : V) : af P f as [] false r [B] := by
 refine af.of_evO' hf hb hn hB ?_
 intro C h1 h2 _
 subst h1
 rw [← hv, ← h2] at pf
 exact (qZ c _ hint _ pf).mono (fun e st' ⟨h', hk⟩ => Bm hk)
theorem af.nilcases {P : Program} {f : FuncId} {sz : Nat} {α : Type} {enc : α → List V} {d : α} {l : List α} {as : List D} {al : Bool} {r : D} {H' : List au}
  (h1 : l ≠ [] → af P f (.v (.sl sz enc d l) :: as) [] al r H') (h2 : l = [] → af P f (.nils :: as) [] al r H') (h3 : l = [] → af P f (.v .esl :: as) [] al r H') : af P f (.v (.sl sz enc d l) :: as) [] al r H' := by
 by_cases hl : l = []
 ·intro S μ w us hS hH hus
  have hsz := hus.1
  simp only [List.length_cons] at hsz
  have h0 : us[0]? = some us[0] := Array.getElem?_eq_getElem (by omega)
  have hx := bz (hus.2 0 _ _ rfl h0)
  have re : ∀ (x : D), ak S μ w x us[0] → aG S μ w (x :: as) us := fun x hx => ⟨by simp [hsz], fun j y u hy hu => by
   cases j with
   | zero => simp at hy; subst hy; rw [h0] at hu; cases hu; exact hx
   | succ j => exact hus.2 (j + 1) y u (by simpa using hy) hu⟩
  obtain ⟨p, c, hu, q1, q2, q3, q4⟩ := dy hx
  subst hl
  cases p with
  | none =>
   have := q3 rfl
   subst this
   exact h2 rfl S μ w us hS hH (re _ (by rw [hu]; exact .nils))
  | some p => exact h3 rfl S μ w us hS hH (re _ (by rw [hu]; exact .v _ _ (.esl p c q2)))
 ·exact h1 hl
abbrev uv (P : Program) (g : FuncId) (ds : List D) (H : List au) (E : List (Nat × D)) (H' N : List au) (r : D) : Prop := ∀ tm : Array Value, fV P g ds (H ++ [.frame tm E]) r (H' ++ .frame tm E :: N)
def TT : Nat → Prop → Prop
 | 0, p => p
 | n + 1, p => True ∧ TT n p
theorem tt : ∀ {n : Nat} {p : Prop}, p → TT n p
 | 0, _, h => h
 | n + 1, _, h => ⟨trivial, tt h⟩
abbrev CB (b : Bool) (x y : Prop) : Prop := (b = true → x) ∧ (b = false → y)
abbrev CD (P : Prop) [Decidable P] (x y : Prop) : Prop := CB (decide P) x y
abbrev CN (P : Prop) [Decidable P] (x y : Prop) : Prop := CB (!decide P) x y
abbrev CS (P x y : Prop) : Prop := (P → x) ∧ (¬P → y)
theorem cd {P : Prop} [Decidable P] {x y : Prop} (h1 : P → x) (h2 : ¬P → y) : CD P x y := ⟨fun h => h1 (of_decide_eq_true h), fun h => h2 (of_decide_eq_false h)⟩
theorem cn {P : Prop} [Decidable P] {x y : Prop} (h1 : ¬P → x) (h2 : P → y) : CN P x y := ⟨fun h => h1 (by simpa using h), fun h => h2 (by simpa using h)⟩
abbrev GO {σ : Type} (L : Lp σ) (s0 : σ) (body : Prop) : Prop := L.mk s0 = L.mk s0 ∧ L.inv s0 ∧ body
abbrev AG {σ : Type} (L : Lp σ) (s s' : σ) : Prop := L.ag s (L.mk s')
abbrev AT {σ : Type} (L : Lp σ) (s' : σ) : Prop := L.at (L.mk s')
theorem vT {P : Prop} [Decidable P] (h : P) : True ∧ decide P = true := ⟨trivial, decide_eq_true h⟩
theorem vF {P : Prop} [Decidable P] (h : ¬P) : True ∧ decide P = false := ⟨trivial, decide_eq_false h⟩
theorem Jj {P : Prop} [Decidable P] (h : ¬P) : (!decide P) = true := by simp [h]
theorem Jk {P : Prop} [Decidable P] (h : P) : (!decide P) = false := by simp [h]
theorem nT {P : Prop} [Decidable P] (h : ¬P) : True ∧ (!decide P) = true := ⟨trivial, Jj h⟩
theorem nF {P : Prop} [Decidable P] (h : P) : True ∧ (!decide P) = false := ⟨trivial, Jk h⟩
theorem Ja {b : Bool} (h : ¬b = true) : b = false := by simpa using h
theorem HR {b : Bool} (h : ¬b = true) : (!b) = true := by simpa using h
theorem HL {b : Bool} (h : b = true) : (!b) = false := by simp [h]
theorem bT {b : Bool} (h : b = true) : True ∧ b = true := ⟨trivial, h⟩
theorem bF {b : Bool} (h : ¬b = true) : True ∧ b = false := ⟨trivial, Ja h⟩
theorem mT {b : Bool} (h : ¬b = true) : True ∧ (!b) = true := ⟨trivial, HR h⟩
theorem mF {b : Bool} (h : b = true) : True ∧ (!b) = false := ⟨trivial, HL h⟩
abbrev HE (H : List au) : Prop := H = H
abbrev IX (i n : Int) : Prop := 0 ≤ i ∧ i < n
theorem ix {i n : Int} (h : 0 ≤ i ∧ i < n := by first | omega | (simp; omega)) : IX i n := h
theorem om {p : Prop} (h : p := by first | omega | (simp; first | done | omega)) : p := h
abbrev W6 (x : Int) : Prop := True ∧ IntKind.i64.wrap x = x
theorem w6 {x : Int} (h1 : -9223372036854775808 ≤ x := by first | omega | (simp; first | done | omega)) (h2 : x ≤ 9223372036854775807 := by first | omega | (simp; first | done | omega)) : W6 x := ⟨trivial, A8 rfl h1 h2⟩
abbrev QD (a n : Int) : Prop := n ≠ 0 ∧ IntKind.i64.wrap (Int.tdiv a n) = a / n
theorem qd {a n : Int} (h0 : 0 ≤ a := by first | omega | (simp; omega)) (h1 : a ≤ 9223372036854775807 := by first | omega | (simp; omega)) (hn : 0 < n := by first | omega | (simp; omega)) : QD a n := by
 refine ⟨by omega, ?_⟩
 rw [Int.tdiv_eq_ediv_of_nonneg h0, IntKind.wrap_i64]
 have := Int.ediv_nonneg h0 (Int.le_of_lt hn)
 have := Int.ediv_le_self n h0
 omega
abbrev QM (a n : Int) : Prop := n ≠ 0 ∧ Int.tmod a n = a % n
theorem qm {a n : Int} (h0 : 0 ≤ a := by first | omega | (simp; omega)) (hn : 0 < n := by first | omega | (simp; omega)) : QM a n := ⟨by omega, Int.tmod_eq_emod_of_nonneg h0⟩
theorem af.recast {P : Program} {f : FuncId} {as as' : List D} {al : Bool} {r : D} (h : t4 [] as as') (hc : af P f as' [] al r []) : af P f as [] al r [] := fun S μ w us hS hH hus =>
 hc S μ w us hS hH (kt hH (fun _ h => h) hS (.inl fun i A b hA => by simp at hA) h hus)
structure Ct : Type 1 where
 f : FuncId
 as : List D
 al : Bool
 r : D
abbrev Ct.O (c : Ct) : Ov := .call none c.al c.r
abbrev Ct.O' (c : Ct) : Ov := .call (some c.as) c.al c.r
abbrev Ct.C (P : Program) (c : Ct) : Prop := af P c.f c.as [] c.al c.r []
abbrev Ct.K (P : Program) (c : Ct) : Prop := t4 [] c.as c.as ∧ af P c.f c.as [] c.al c.r []
structure yB : Type 1 where
 f : FuncId
 as : List D
 r : D
 B : au
abbrev yB.O (c : yB) : Ov := .ownd none c.r c.B
abbrev yB.O' (c : yB) : Ov := .ownd (some c.as) c.r c.B
mutual
def jP : D → Bool
 | .v (.mp _) => false
 | .agg cs => eh cs
 | .tup cs => eh cs
 | .fn _ a b => eh a && eh b
 | _ => true
def eh : List D → Bool
 | [] => true
 | d :: r => jP d && eh r
end
theorem Bn : ∀ (x : V), (∀ es, x ≠ .mp es) → EG x x
 | .int k n, _ => by simp [EG]
 | .bool b, _ => rfl
 | .str s, _ => rfl
 | .nilf, _ => trivial
 | .nsl, _ => trivial
 | .esl, _ => trivial
 | .sl sz enc d l, _ => by simp [EG]
 | .mp es, h => (h es rfl).elim
theorem Bo : ∀ (x : D), jP x = true → Df x x
 | .v x, h => Bn x (fun es e => by subst e; simp [jP] at h)
 | .nils, _ => rfl
 | .own i, _ => rfl
 | .ptr _ _ _ _, _ => rfl
 | .iptr cs o, _ => by simp [Df]
 | .agg _, _ => rfl
 | .tup _, _ => rfl
 | .fn _ _ _, _ => rfl
 | .yld _, _ => rfl
 | .capd _, _ => rfl
 | .junk, _ => trivial
theorem vV (x : D) (h : jP x = true) : Dg [] x x := by
 cases x <;> exact Bo _ h
theorem vW : ∀ (l : List D), eh l = true → GB [] l l
 | [], _ => trivial
 | d :: r, h => by simp only [eh, Bool.and_eq_true] at h; exact ⟨vV d h.1, vW r h.2⟩
theorem vX (x : D) (h : jP x = true) : Gq [] x x := by
 cases x <;> exact vV _ h
theorem rb : ∀ (l : List D), eh l = true → GE [] l l
 | [], _ => trivial
 | d :: r, h => by simp only [eh, Bool.and_eq_true] at h; exact ⟨vX d h.1, rb r h.2⟩
theorem vY (x : D) (h : jP x = true) : HG [] x x := by
 cases x with
 | agg xs => exact vW _ (by simpa [jP] using h)
 | fn f a b => simp only [jP, Bool.and_eq_true] at h; exact ⟨rfl, rb a h.1, rb b h.2⟩
 | _ => exact vX _ h
theorem cQ : ∀ (l : List D), eh l = true → t4 [] l l
 | [], _ => trivial
 | d :: r, h => by simp only [eh, Bool.and_eq_true] at h; exact ⟨vY d h.1, cQ r h.2⟩
end Go.Proofs.YtgmpoenfoacofaaGreat
