/-
  What is owed of a function's code, computed: one condition for all its ways. Generic: over any program.
-/
import Derived.Test.YtnlmlkbaflmgcaaQDr
import Derived.LoopNIn
namespace Go.Proofs.Ytnlmlkbaflmgcaa
open Go.RowKit
set_option linter.unusedVariables false
set_option linter.unusedSimpArgs false
structure Lp (σ : Type) : Type 1 where
 make ::
 keep : List Nat
 n : Nat
 all : (σ → Prop) → Prop
 hall : ∀ P, all P → ∀ s, P s
 mk : σ → St
 inv : σ → Prop
 m : σ → Nat
abbrev fB {α : Type} (keep : List Nat) (n : Nat) (mk : α → St) (inv : α → Prop) (m : α → Nat) : Lp α := ⟨keep, n, fun P => ∀ a, P a, fun _ h => h, mk, inv, m⟩
abbrev pW {α β : Type} (keep : List Nat) (n : Nat) (mk : α → β → St) (inv : α → β → Prop) (m : α → β → Nat) : Lp (α × β) :=
 ⟨keep, n, fun P => ∀ a b, P (a, b), fun _ h ⟨a, b⟩ => h a b, fun | (a, b) => mk a b, fun | (a, b) => inv a b, fun | (a, b) => m a b⟩
abbrev Jl {α β γ : Type} (keep : List Nat) (n : Nat) (mk : α → β → γ → St) (inv : α → β → γ → Prop) (m : α → β → γ → Nat) : Lp (α × β × γ) :=
 ⟨keep, n, fun P => ∀ a b c, P (a, b, c), fun _ h ⟨a, b, c⟩ => h a b c, fun | (a, b, c) => mk a b c, fun | (a, b, c) => inv a b c, fun | (a, b, c) => m a b c⟩
abbrev LW {α β γ δ : Type} (keep : List Nat) (n : Nat) (mk : α → β → γ → δ → St) (inv : α → β → γ → δ → Prop) (m : α → β → γ → δ → Nat) : Lp (α × β × γ × δ) :=
 ⟨keep, n, fun P => ∀ a b c d, P (a, b, c, d), fun _ h ⟨a, b, c, d⟩ => h a b c d, fun | (a, b, c, d) => mk a b c d, fun | (a, b, c, d) => inv a b c d, fun | (a, b, c, d) => m a b c d⟩
def Lp.ag {σ : Type} (L : Lp σ) (s : σ) (st : St) : Prop := ∃ s', st = L.mk s' ∧ L.inv s' ∧ L.m s' < L.m s
def Lp.at {σ : Type} (L : Lp σ) (st : St) : Prop := ∃ s', st = L.mk s' ∧ L.inv s'
inductive br : Type 1
 | e
 | w (id : Nat) (o : List (Nat × Ov)) (h : br)
 | q (id : Nat) (keep : List Nat) (n : Nat) (h : br)
 | f (id b : Nat) (h : br)
 | g (id i j E sz : Nat) {α : Type} (enc : α → List V) (d : α) (h : br)
 | gs (id t E sz : Nat) {α : Type} (enc : α → List V) (d : α) (h : br)
 | mv (id j i : Nat) (h : br)
 | s (id : Nat) (P : Prop) (x y : br)
 | y (id : Nat) (o : List (Nat × Ov)) (tab : yi) (h : br)
 | c (t : Nat) (P : Prop) [i : Decidable P] (x y : br)
 | n (t : Nat) (P : Prop) [i : Decidable P] (x y : br)
 | b (t : Nat) (x y : br)
 | t (t : Nat) (x : br)
 | u (t : Nat) (x : br)
 | l {σ : Type} (L : Lp σ) (s0 : σ) (h : σ → br)
 | r (n : Nat) (h : br)
 | k (id : Nat) {σ : Type} (L : Lp σ) (x : br) (h : σ → br)
def Jm (o : Oper) : Bool := match o.op with
 | .store _ _ _ => true
 | .call ⟨.builtin .append, _, _⟩ => true
 | .call ⟨.builtin .copy, _, _⟩ => true
 | _ => false
def Jn : Ov → Bool
 | .inl _ _ _ => true
 | .inls _ => true
 | _ => false
def Jo : Ov → Bool
 | .app _ _ _ _ _ _ => true
 | _ => false
def Jp : Ov → Bool
 | .val .junk => true
 | _ => false
def zF (ovs : List (Nat × Ov)) : List Nat → Nat → List Oper → Nat
 | _, _, [] => 0
 | rd, i, o :: r => if (Jm o && !(Jo (nY ovs i) || Jp (nY ovs i))) || Jn (nY ovs i) || (match o.dst with | some t => rd.any (fun s => Nat.beq t s) | none => false) then 0 else zF ovs (CI o.op ++ rd) (i + 1) r + 1
def Hw (P : Program) (nt : Nat) (ops : List Oper) (ovs : List (Nat × Ov)) (tab : yi) (st : St) (k : St → Prop) : Prop :=
 match P.follows .mixedOrders && ops.all (fun o => !dV o), kP tab (List.replicate ops.length false), kP tab (List.replicate ops.length true) with
 | true, some st0, some st1 => yj st st0 = st0 ∧ Fm P nt ops ovs tab tab ∧ nS st1 k
 | _, _, _ => False
def tW (id : Nat) : br → St → (List (Nat × Ov) → Option yi → br → St → Prop) → Prop
 | .w i o h, st, k => match Nat.beq i id with
  | true => k o none h st
  | false => k [] none (.w i o h) st
 | .y i o t h, st, k => match Nat.beq i id with
  | true => k o (some t) h st
  | false => k [] none (.y i o t h) st
 | .q i kp n h, st, k => match Nat.beq i id with
  | true => nS (keepS kp n st) (fun st' => tW id h st' k)
  | false => k [] none (.q i kp n h) st
 | .f i b h, st, k => match Nat.beq i id with
  | true => match lA b st with
   | some st' => nS st' (fun st' => tW id h st' k)
   | none => False
  | false => k [] none (.f i b h) st
 | .g i a j E sz enc d h, st, k => match Nat.beq i id with
  | true => match yh a j E sz enc d st with
   | some st' => nS st' (fun st' => tW id h st' k)
   | none => False
  | false => k [] none (.g i a j E sz enc d h) st
 | .gs i t E sz enc d h, st, k => match Nat.beq i id with
  | true => match adoptE t E sz enc d st with
   | some st' => nS st' (fun st' => tW id h st' k)
   | none => False
  | false => k [] none (.gs i t E sz enc d h) st
 | .mv i j a h, st, k => match Nat.beq i id with
  | true => match zt j a st with
   | some st' => nS st' (fun st' => tW id h st' k)
   | none => False
  | false => k [] none (.mv i j a h) st
 | .s i P x y, st, k => match Nat.beq i id with
  | true => (P → tW id x st k) ∧ (¬P → tW id y st k)
  | false => k [] none (.s i P x y) st
 | h, st, k => k [] none h st
def Jq : Operand → Nat
 | .tmp t => t + 1
 | _ => 0
def rM (t : Nat) (b : Bool) (X Y : br → Prop) : br → Prop
 | @br.c t' P i x y => match Nat.beq (t' + 1) t with
  | true => b = @decide P i ∧ (P → X x) ∧ (¬P → Y y)
  | false => match b with | true => X (@br.c t' P i x y) | false => Y (@br.c t' P i x y)
 | @br.n t' P i x y => match Nat.beq (t' + 1) t with
  | true => b = (!@decide P i) ∧ (¬P → X x) ∧ (P → Y y)
  | false => match b with | true => X (@br.n t' P i x y) | false => Y (@br.n t' P i x y)
 | .b t' x y => match Nat.beq (t' + 1) t with
  | true => (b = true → X x) ∧ (b = false → Y y)
  | false => match b with | true => X (.b t' x y) | false => Y (.b t' x y)
 | .t t' x => match Nat.beq (t' + 1) t with
  | true => b = true ∧ X x
  | false => match b with | true => X (.t t' x) | false => Y (.t t' x)
 | .u t' x => match Nat.beq (t' + 1) t with
  | true => b = false ∧ Y x
  | false => match b with | true => X (.u t' x) | false => Y (.u t' x)
 | h => match b with | true => X h | false => Y h
def C0 : Code → Option Nat
 | .region id _ _ => some id
 | .seq a _ => C0 a
 | .block _ a => C0 a
 | .loop a => C0 a
 | .cond _ a _ => C0 a
 | _ => none
def Jr (x : Code) : br → Bool
 | .k id _ _ _ => match C0 x with | some i => Nat.beq i id | none => false
 | _ => false
@[reducible] def kSeq (n : br → St → Prop) (K : br → Exit → St → Prop) (h : br) (e : Exit) (st : St) : Prop := match e with
 | .normal => n h st
 | e => K h e st
@[reducible] def kBlock (id : Nat) (K : br → Exit → St → Prop) (h : br) (e : Exit) (st : St) : Prop := match e with
 | .exit i => match Nat.beq i id with | true => K h .normal st | false => K h (.exit i) st
 | e => K h e st
def Ft (body : (br → Exit → St → Prop) → br → St → Prop) (K : br → Exit → St → Prop) : Nat → br → St → Prop
 | 0, _, _ => False
 | n + 1, h, st => body (fun h' e st' => match e with | .normal => Ft body K n h' st' | e => K h' e st') h st
def vc (P : Program) (nt : Nat) : Code → (br → Exit → St → Prop) → br → St → Prop
 | .skip, K, h, st => K h .normal st
 | .label _, K, h, st => K h .normal st
 | .exit i, K, h, st => K h (.exit i) st
 | .ret, K, h, st => K h .ret st
 | .seq x y, K, h, st => match Jr x h with
  | false => vc P nt x (kSeq (vc P nt y K) K) h st
  | true => match h with
   | .k _ L hx hy => vc P nt x (fun h' e st' => match e with | .normal => L.at (keepS L.keep L.n st') | e => K h' e st') hx st ∧ L.all (fun s => L.inv s → vc P nt y K (hy s) (L.mk s))
   | _ => False
 | .block i c, K, h, st => vc P nt c (kBlock i K) h st
 | .cond c x y, K, h, st => match eP st.env c with
  | .v (.bool b) => rM (Jq c) b (fun h => vc P nt x K h st) (fun h => vc P nt y K h st) h
  | _ => False
 | .loop c, K, h, st => match h with
  | .l L s0 hb => keepS L.keep L.n st = L.mk s0 ∧ L.inv s0 ∧ L.all (fun s => L.inv s → vc P nt c (fun h' e st' => match e with | .normal => L.ag s (keepS L.keep L.n st') | e => K h' e st') (hb s) (L.mk s))
  | .r n h => Ft (fun K => vc P nt c K) K n h st
  | _ => False
 | .region id ops draw, K, h, st => tW id h st fun o t h st => match t with
  | some tab => match draw with
   | true => Hw P nt ops.toList o tab st (fun st => K h .normal st)
   | false => False
  | none => match draw with
   | false => sZ P nt ops.toList o 0 ops.toList st (fun st => nS st (fun st => K h .normal st))
   | true => Hv P nt ops.toList o (zF o [] 0 ops.toList) st (fun st => nS st (fun st => K h .normal st))
 | _, _, _, _ => False
section
variable {C : mW} {Q : Exit → St → Prop}
theorem Ev.regA {st st' : St} {id : Nat} {ops : List Oper} (ovs : List (Nat × Ov)) {p : Prop} (h : ef C.P C.nt ops ovs 0 ops st = (st', p)) (hp : p) (hq : Q .normal st') : Ev C (.region id ops.toArray false) Q st := fun a w S μ hR =>
 wpIn_region_lit (oa ops 0 st S μ a w p hR h hp (fun S' μ' a' w' hR' => ⟨_, S', μ', hq, hR'⟩))
theorem Hx {id : Nat} {c : Code} {k : List (Nat × Ov) → Option yi → br → St → Prop} (hk : ∀ o t h st, k o t h st → Ev C c Q st) : ∀ (h : br) (st : St), tW id h st k → Ev C c Q st := by
 intro h
 induction h with
 | w i o h ih => intro st hp; unfold tW at hp; split at hp <;> exact hk _ _ _ _ hp
 | y i o t h ih => intro st hp; unfold tW at hp; split at hp <;> exact hk _ _ _ _ hp
 | q i kp n h ih =>
  intro st hp; unfold tW at hp; split at hp
  ·rw [pU] at hp; exact Ev.keep kp n rfl (ih _ hp)
  ·exact hk _ _ _ _ hp
 | f i b h ih =>
  intro st hp; unfold tW at hp; split at hp
  ·split at hp
   ·rename_i st' hf; rw [pU] at hp; exact Ev.freeze b hf (ih _ hp)
   ·exact hp.elim
  ·exact hk _ _ _ _ hp
 | g i a j E sz enc d h ih =>
  intro st hp; unfold tW at hp; split at hp
  ·split at hp
   ·rename_i st' hf; rw [pU] at hp; exact Ev.adopt a j E sz enc d hf (ih _ hp)
   ·exact hp.elim
  ·exact hk _ _ _ _ hp
 | gs i t E sz enc d h ih =>
  intro st hp; unfold tW at hp; split at hp
  ·split at hp
   ·rename_i st' hf; rw [pU] at hp; exact Ev.adoptE t E sz enc d hf (ih _ hp)
   ·exact hp.elim
  ·exact hk _ _ _ _ hp
 | mv i j a h ih =>
  intro st hp; unfold tW at hp; split at hp
  ·split at hp
   ·rename_i st' hf; rw [pU] at hp; exact Ev.move j a hf (ih _ hp)
   ·exact hp.elim
  ·exact hk _ _ _ _ hp
 | s i P x y ih1 ih2 =>
  intro st hp; unfold tW at hp; split at hp
  ·by_cases hP : P
   ·exact ih1 _ (hp.1 hP)
   ·exact ih2 _ (hp.2 hP)
  ·exact hk _ _ _ _ hp
 | _ => intro st hp; unfold tW at hp; exact hk _ _ _ _ hp
theorem gV {b : Bool} {X Y : br → Prop} (h : br) (hh : match b with | true => X h | false => Y h) : (b = true → ∃ h', X h') ∧ (b = false → ∃ h', Y h') := by
 cases b
 ·exact ⟨fun h => (by cases h), fun _ => ⟨_, hh⟩⟩
 ·exact ⟨fun _ => ⟨_, hh⟩, fun h => (by cases h)⟩
theorem C2 {t : Nat} {b : Bool} {X Y : br → Prop} {h : br} (hc : rM t b X Y h) : (b = true → ∃ h', X h') ∧ (b = false → ∃ h', Y h') := by
 cases h with
 | c t' P x y =>
  simp only [rM] at hc; split at hc
  ·obtain ⟨h1, h2, h3⟩ := hc
   subst h1
   exact ⟨fun h => ⟨_, h2 (of_decide_eq_true h)⟩, fun h => ⟨_, h3 (of_decide_eq_false h)⟩⟩
  ·exact gV _ hc
 | n t' P x y =>
  simp only [rM] at hc; split at hc
  ·obtain ⟨h1, h2, h3⟩ := hc
   subst h1
   exact ⟨fun h => ⟨_, h2 (by simpa using h)⟩, fun h => ⟨_, h3 (by simpa using h)⟩⟩
  ·exact gV _ hc
 | b t' x y =>
  simp only [rM] at hc; split at hc
  ·exact ⟨fun h => ⟨_, hc.1 h⟩, fun h => ⟨_, hc.2 h⟩⟩
  ·exact gV _ hc
 | t t' x =>
  simp only [rM] at hc; split at hc
  ·exact ⟨fun h => ⟨_, hc.2⟩, fun h => (by rw [hc.1] at h; cases h)⟩
  ·exact gV _ hc
 | u t' x =>
  simp only [rM] at hc; split at hc
  ·exact ⟨fun h => (by rw [hc.1] at h; cases h), fun h => ⟨_, hc.2⟩⟩
  ·exact gV _ hc
 | _ => exact gV _ hc
theorem Bl {id : Nat} {ops : Array Oper} {draw : Bool} {h : br} {st : St} {K : br → Exit → St → Prop} (hv : vc C.P C.nt (.region id ops draw) K h st) (hK : ∀ h st, K h .normal st → Q .normal st) : Ev C (.region id ops draw) Q st := by
 unfold vc at hv
 refine Hx ?_ h st hv
 intro o t h st hq
 have ha : ops = ops.toList.toArray := by simp
 cases t with
 | some tab =>
  cases draw with
  | false => exact hq.elim
  | true =>
   change Hw C.P C.nt ops.toList o tab st _ at hq
   unfold Hw at hq
   cases hb : C.P.follows .mixedOrders && ops.toList.all (fun o => !dV o) with
   | false => rw [hb] at hq; exact hq.elim
   | true =>
   cases h0 : kP tab (List.replicate ops.toList.length false) with
   | none => rw [hb, h0] at hq; exact hq.elim
   | some st0 =>
   cases h1 : kP tab (List.replicate ops.toList.length true) with
   | none => rw [hb, h0, h1] at hq; exact hq.elim
   | some st1 =>
   rw [hb, h0, h1] at hq
   simp only [Bool.and_eq_true] at hb
   obtain ⟨q1, q2, q3⟩ := hq
   rw [pU] at q3
   rw [ha]
   exact Ev.any (st' := st1) o tab hb.1 hb.2 h0 q1 h1 rfl q2 (hK _ _ q3)
 | none =>
  cases draw with
  | false =>
   obtain ⟨h1, h2⟩ := qz _ _ _ _ hq
   rw [pU] at h2
   rw [ha]
   exact Ev.regA o rfl h1 (hK _ _ h2)
  | true =>
   rw [ha]
   refine Ev.dw o (zF o [] 0 ops.toList) ?_
   have hq' : Hv C.P C.nt ops.toList o (zF o [] 0 ops.toList) st (fun st => nS st (fun st => K h .normal st)) := by simpa using hq
   exact CX hq' (fun st1 h1 => hK _ _ (by rwa [pU] at h1))
theorem rN {c : Code} (ih : ∀ (K : br → Exit → St → Prop) (h : br) (st : St), vc C.P C.nt c K h st → Ev C c (fun e st => ∃ h', K h' e st) st) (K : br → Exit → St → Prop) : ∀ (n : Nat) (h : br) (st : St) (S : Nat → Prop) (μ : Nat → Value) (a : Act) (w : World), aZ C S μ st a w →
  Ft (fun K => vc C.P C.nt c K) K n h st → Code.roundsIn (mV C.rd) 0 C.P c (fun e a' w' => ∃ st' S' μ', (∃ h', K h' e st') ∧ aZ C S' μ' st' a' w') n a w
 | 0, h, st, S, μ, a, w, hR, hv => hv.elim
 | n + 1, h, st, S, μ, a, w, hR, hv => by
  rw [roundsIn_succ]
  refine wpIn_mono (ih _ _ _ hv a w S μ hR) ?_
  rintro e a' w' ⟨st', S', μ', ⟨h', hq⟩, hR'⟩
  cases e with
  | normal => exact rN ih K n h' st' S' μ' a' w' hR' hq
  | exit i => exact ⟨st', S', μ', ⟨h', hq⟩, hR'⟩
  | goto l => exact ⟨st', S', μ', ⟨h', hq⟩, hR'⟩
  | ret => exact ⟨st', S', μ', ⟨h', hq⟩, hR'⟩
  | panic ch => exact ⟨st', S', μ', ⟨h', hq⟩, hR'⟩
  | outgrown => exact ⟨st', S', μ', ⟨h', hq⟩, hR'⟩
theorem Bm {c : Code} (ih : ∀ (K : br → Exit → St → Prop) (h : br) (st : St), vc C.P C.nt c K h st → Ev C c (fun e st => ∃ h', K h' e st) st) (K : br → Exit → St → Prop) (n : Nat) (h : br) (st : St) (hv : Ft (fun K => vc C.P C.nt c K) K n h st) : Ev C (.loop c) (fun e st => ∃ h', K h' e st) st :=
 fun a w S μ hR => wpIn_loop_rounds n (rN ih K n h st S μ a w hR hv)
theorem rO : ∀ (c : Code) (K : br → Exit → St → Prop) (h : br) (st : St), vc C.P C.nt c K h st → Ev C c (fun e st => ∃ h', K h' e st) st := by
 intro c
 induction c with
 | skip => intro K h st hv; exact Ev.skip ⟨h, hv⟩
 | label l => intro K h st hv; exact Ev.label ⟨h, hv⟩
 | exit i => intro K h st hv; exact Ev.exit ⟨h, hv⟩
 | ret => intro K h st hv; exact Ev.ret ⟨h, hv⟩
 | region id ops draw => intro K h st hv; exact Bl hv (fun h st hk => ⟨h, hk⟩)
 | seq x y ihx ihy =>
  intro K h st hv
  unfold vc at hv
  split at hv
  ·refine Ev.seq ((ihx _ _ _ hv).mono ?_)
   rintro e st' ⟨h', hq⟩
   cases e with
   | normal => exact ihy _ _ _ hq
   | exit i => exact ⟨h', hq⟩
   | goto l => exact ⟨h', hq⟩
   | ret => exact ⟨h', hq⟩
   | panic ch => exact ⟨h', hq⟩
   | outgrown => exact ⟨h', hq⟩
  ·cases h with
   | k id L hx hy =>
    obtain ⟨h1, h2⟩ := hv
    refine Ev.cut L.keep L.n L.mk L.inv ((ihx _ _ _ h1).mono ?_) (fun s hs => ihy _ _ _ (L.hall _ h2 s hs))
    rintro e st' ⟨h', hq⟩
    cases e with
    | normal => exact hq
    | exit i => exact ⟨h', hq⟩
    | goto l => exact ⟨h', hq⟩
    | ret => exact ⟨h', hq⟩
    | panic ch => exact ⟨h', hq⟩
    | outgrown => exact ⟨h', hq⟩
   | _ => exact hv.elim
 | cond c x y ihx ihy =>
  intro K h st hv
  unfold vc at hv
  split at hv
  ·rename_i b hb
   obtain ⟨h1, h2⟩ := C2 hv
   exact Ev.cond b hb (fun hb => by obtain ⟨h', q⟩ := h1 hb; exact ihx _ _ _ q) (fun hb => by obtain ⟨h', q⟩ := h2 hb; exact ihy _ _ _ q)
  ·exact hv.elim
 | block i c ih =>
  intro K h st hv
  unfold vc at hv
  refine Ev.block ((ih _ _ _ hv).mono ?_)
  rintro e st' ⟨h', hq⟩
  cases e with
  | exit j =>
   show (if Nat.beq j i = true then _ else _)
   change (match Nat.beq j i with | true => K h' .normal st' | false => K h' (.exit j) st') at hq
   by_cases hj : Nat.beq j i = true
   ·rw [hj] at hq; rw [if_pos hj]; exact ⟨h', hq⟩
   ·rw [if_neg hj]
    simp only [Bool.not_eq_true] at hj
    rw [hj] at hq
    exact ⟨h', hq⟩
  | normal => exact ⟨h', hq⟩
  | goto l => exact ⟨h', hq⟩
  | ret => exact ⟨h', hq⟩
  | panic ch => exact ⟨h', hq⟩
  | outgrown => exact ⟨h', hq⟩
 | loop c ih =>
  intro K h st hv
  unfold vc at hv
  split at hv
  ·rename_i σ L s0 hb
   obtain ⟨h1, h2, h3⟩ := hv
   refine Ev.loop L.keep L.n L.mk L.inv L.m s0 h1 h2 ?_
   intro s hs
   refine (ih _ _ _ (L.hall _ h3 s hs)).mono ?_
   rintro e st' ⟨h', hq⟩
   cases e with
   | normal => exact hq
   | exit i => exact ⟨h', hq⟩
   | goto l => exact ⟨h', hq⟩
   | ret => exact ⟨h', hq⟩
   | panic ch => exact ⟨h', hq⟩
   | outgrown => exact ⟨h', hq⟩
  ·exact Bm ih K _ _ _ hv
  ·exact hv.elim
 | _ => intro K h st hv; exact (by unfold vc at hv; exact hv.elim)
end
def ql (P : Program) (st : St) : List ResultVar → (List D → Prop) → Prop
 | [], k => k []
 | r :: rs, k => match Bd P st r with
  | (d, p) => p ∧ ql P st rs (fun ds => k (d :: ds))
theorem qC {P : Program} {st : St} : ∀ (rs : List ResultVar) (k : List D → Prop), ql P st rs k → (resL P st rs).2 ∧ k (resL P st rs).1
 | [], k, h => ⟨trivial, h⟩
 | r :: rs, k, h => by
  unfold ql at h
  unfold resL
  generalize hq : Bd P st r = q at h
  obtain ⟨d, p⟩ := q
  obtain ⟨h1, h2⟩ := h
  obtain ⟨h3, h4⟩ := qC rs _ h2
  exact ⟨⟨h1, h3⟩, h4⟩
def Js (H : List aE) : D → D → Prop
 | .tup xs, .tup ys => Jb H xs ys
 | x, y => GV H x y
def Ky : D → D → Prop
 | .tup xs, .tup ys => Kw xs ys
 | x, y => Ho x y
def C3 : List D → D
 | [d] => d
 | ds => .tup ds
def Hy (al : Bool) (H : List aE) (x r : D) : Prop := match al with
 | true => Js H x r
 | false => Js H x r ∧ Ky x r
def Jt (P : Program) (fn : Func) (al : Bool) (r : D) (_ : br) (e : Exit) (st : St) : Prop := match e with
 | .normal => ql P st fn.results.toList (fun ds => Hy al st.heap (C3 ds) r)
 | .ret => ql P st fn.results.toList (fun ds => Hy al st.heap (C3 ds) r)
 | _ => False
theorem vg {P : Program} {st : St} {rs : List ResultVar} : Be P rs st = (C3 (resL P st rs).1, (resL P st rs).2) := by
 unfold Be
 generalize resL P st rs = q
 obtain ⟨ds, p⟩ := q
 match ds with
 | [] => rfl
 | [d] => rfl
 | d :: e :: r => rfl
theorem zG {al : Bool} {H : List aE} {x r : D} (h1 : Js H x r) (h2 : al = true ∨ Ky x r) : wy al H x r := by
 unfold wy
 split
 ·exact ⟨h1, h2⟩
 ·rename_i hne
  have e1 : Js H x r = GV H x r := by
   unfold Js; split
   ·exact (hne _ _ rfl rfl).elim
   ·rfl
  have e2 : Ky x r = Ho x r := by
   unfold Ky; split
   ·exact (hne _ _ rfl rfl).elim
   ·rfl
  rw [e1] at h1; rw [e2] at h2
  exact ⟨h1, h2⟩
theorem Fu {P : Program} {fn : Func} {al : Bool} {r : D} {h : br} {e : Exit} {st : St} (hk : Jt P fn al r h e st) : Jg P fn al r e st := by
 have key : ql P st fn.results.toList (fun ds => Hy al st.heap (C3 ds) r) → gF P fn st ∧ wy al st.heap (gN P fn st) r := by
  intro hq
  obtain ⟨h1, h2⟩ := qC _ _ hq
  unfold gF gN
  rw [vg]
  refine ⟨h1, ?_⟩
  cases al
  ·exact zG h2.1 (.inr h2.2)
  ·exact zG h2 (.inl rfl)
 cases e with
 | normal => exact key hk
 | ret => exact key hk
 | exit i => exact hk.elim
 | goto l => exact hk.elim
 | panic ch => exact hk.elim
 | outgrown => exact hk.elim
theorem ap.vc {P : Program} {f : FuncId} {fn : Func} {c : Code} {as : List D} {al : Bool} {r : D} {V : Prop} (hint : br) (hf : P.funcs[f]? = some fn) (hb : fn.body = some c) (hn : Nat.ble as.length fn.ntmps = true) (hr : ez r = true)
  (hv : Proofs.Ytnlmlkbaflmgcaa.vc P fn.ntmps c (Jt P fn al r) hint ⟨kA 0 as, []⟩ = V) (pf : V) : ap P f as [] al r [] := by
 refine ap.of_ev hf hb hn hr ?_
 intro C h1 h2 _
 subst h1
 rw [← hv, ← h2] at pf
 exact (rO c _ hint _ pf).mono (fun e st' ⟨h', hk⟩ => Fu hk)
def Ju (P : Program) (fn : Func) (r : D) (H : List aE) (_ : br) (e : Exit) (st : St) : Prop := match e with
 | .normal => ql P st fn.results.toList (fun ds => xJ (C3 ds) r ∧ st.heap.take H.length = H)
 | .ret => ql P st fn.results.toList (fun ds => xJ (C3 ds) r ∧ st.heap.take H.length = H)
 | _ => False
theorem Fv {P : Program} {fn : Func} {r : D} {H : List aE} {h : br} {e : Exit} {st : St} (hk : Ju P fn r H h e st) : Jf P fn r H e st := by
 have key : ql P st fn.results.toList (fun ds => xJ (C3 ds) r ∧ st.heap.take H.length = H) → gF P fn st ∧ xJ (gN P fn st) r ∧ st.heap.take H.length = H := by
  intro hq
  obtain ⟨h1, h2⟩ := qC _ _ hq
  unfold gF gN
  rw [vg]
  exact ⟨h1, h2⟩
 cases e with
 | normal => exact key hk
 | ret => exact key hk
 | exit i => exact hk.elim
 | goto l => exact hk.elim
 | panic ch => exact hk.elim
 | outgrown => exact hk.elim
theorem tH.vc {P : Program} {f : FuncId} {fn : Func} {c : Code} {ds : List D} {H H' : List aE} {r : D} {V : Prop} (hint : br) (hf : P.funcs[f]? = some fn) (hb : fn.body = some c) (hn : Nat.ble ds.length fn.ntmps = true)
  (hv : Proofs.Ytnlmlkbaflmgcaa.vc P fn.ntmps c (Ju P fn r H') hint ⟨kA 0 ds, H⟩ = V) (pf : V) : tH P f ds H r H' := by
 refine ⟨fn, c, hf, hb, hn, ?_⟩
 intro C h1 h2 _
 subst h1
 rw [← hv, ← h2] at pf
 exact (rO c _ hint _ pf).mono (fun e st' ⟨h', hk⟩ => Fv hk)
def rP : aE → Prop
 | .arr _ _ _ _ l => l = []
 | _ => False
def G0 : Option aE → aE → Prop
 | some B', B => B' = B
 | none, _ => False
def Fw (H : List aE) (x r : D) (B : aE) : Prop := match x with
 | .nils => r = .own 0 ∧ rP B
 | .own i => r = .own 0 ∧ G0 H[i]? B
 | x => ∃ id, H[id]? = some B ∧ yn id x r
def G1 (P : Program) (fn : Func) (r : D) (B : aE) (_ : br) (e : Exit) (st : St) : Prop := match e with
 | .normal => ql P st fn.results.toList (fun ds => Fw st.heap (C3 ds) r B)
 | .ret => ql P st fn.results.toList (fun ds => Fw st.heap (C3 ds) r B)
 | _ => False
def C4 (P : Program) (fn : Func) (r : D) (B : aE) : Exit → St → Prop
 | .normal, st => gF P fn st ∧ ((∃ id, st.heap[id]? = some B ∧ yn id (gN P fn st) r) ∨ (gN P fn st = .nils ∧ r = .own 0 ∧ rP B))
 | .ret, st => gF P fn st ∧ ((∃ id, st.heap[id]? = some B ∧ yn id (gN P fn st) r) ∨ (gN P fn st = .nils ∧ r = .own 0 ∧ rP B))
 | _, _ => False
theorem C5 {P : Program} {fn : Func} {r : D} {B : aE} {h : br} {e : Exit} {st : St} (hk : G1 P fn r B h e st) : C4 P fn r B e st := by
 have key : ql P st fn.results.toList (fun ds => Fw st.heap (C3 ds) r B) → gF P fn st ∧ ((∃ id, st.heap[id]? = some B ∧ yn id (gN P fn st) r) ∨ (gN P fn st = .nils ∧ r = .own 0 ∧ rP B)) := by
  intro hq
  obtain ⟨h1, h2⟩ := qC _ _ hq
  unfold gF gN
  rw [vg]
  refine ⟨h1, ?_⟩
  generalize C3 (resL P st fn.results.toList).1 = x at h2 ⊢
  unfold Fw at h2
  split at h2
  ·exact .inr ⟨rfl, h2⟩
  ·rename_i i
   obtain ⟨rfl, h2⟩ := h2
   unfold G0 at h2
   split at h2
   ·rename_i B' hB'
    subst h2
    exact .inl ⟨i, hB', rfl, rfl⟩
   ·exact h2.elim
  ·exact .inl h2
 cases e with
 | normal => exact key hk
 | ret => exact key hk
 | exit i => exact hk.elim
 | goto l => exact hk.elim
 | panic ch => exact hk.elim
 | outgrown => exact hk.elim
theorem ap.of_evO' {P : Program} {f : FuncId} {fn : Func} {c : Code} {as : List D} {r : D} {B : aE} (hf : P.funcs[f]? = some fn) (hb : fn.body = some c) (hn : Nat.ble as.length fn.ntmps = true) (hB : B.isArr = true)
  (h : ∀ C : mW, C.P = P → C.nt = fn.ntmps → C.rd = none → Ev C c (C4 P fn r B) ⟨kA 0 as, []⟩) : ap P f as [] false r [B] := by
 intro S μ w us hS hH hus
 rw [Nat.ble_eq] at hn
 let C : mW := ⟨P, w, S, fn.ntmps, [], none⟩
 have hrel : aZ C S μ ⟨kA 0 as, []⟩ (tA us fn.ntmps) w :=
  ⟨rfl, rfl, rfl, Nat.le_refl _, fun _ _ => rfl, fun _ h => h, fun _ h => .inl h, hS, u2 hus hn, ⟨fun id B hB => by simp at hB, fun i j A B b hA => by simp at hA, fun i A b hA => by simp at hA⟩, fun i A b hA => by simp at hA, ⟨[], rfl, by simp [C], fun b hb => by simp [C] at hb⟩, rj hus.1 hn, fun i A b hA => by simp at hA⟩
 refine (kL (C := C) hf hb rfl hrel (h C rfl rfl rfl) (fun e st' hq => ?_)).mono ?_
 ·cases e <;> first | exact ⟨.inl rfl, hq.1⟩ | exact ⟨.inr rfl, hq.1⟩ | exact hq.elim
 rintro e w' ⟨u, e0, st', S', μ', a', rfl, hq, hR, hx⟩
 have hq : (∃ id, st'.heap[id]? = some B ∧ yn id (gN P fn st') r) ∨ (gN P fn st' = .nils ∧ r = .own 0 ∧ rP B) := by
  cases e0 <;> first | exact hq.2 | exact hq.elim
 have hl : B.live = true := by cases B <;> first | rfl | cases hB
 have one : ∀ (i : Nat) (A : aE), [B][i]? = some A → i = 0 ∧ A = B := by
  intro i A hA
  match i with
  | 0 => simp at hA; exact ⟨rfl, hA.symm⟩
  | i + 1 => simp at hA
 rcases hq with ⟨id, hid, hr⟩ | ⟨hn0, rfl, hem⟩
 ·refine ⟨u, fun _ => μ' id, S', rfl, hR.os, hR.tape, hR.output, hR.size, fun k hk _ => hR.old k hk, hR.mono, hR.new, hR.slt, CM hx hr, ⟨?_, ?_, ?_⟩, ?_, fun i A hA => by simp at hA⟩
  ·intro i A hA
   obtain ⟨rfl, rfl⟩ := one i A hA
   refine (hR.heap.box id _ hid).stable (fun _ h _ => h) (fun _ _ _ => rfl) (Nat.le_refl _) (fun j hj => ?_) (fun _ _ => rfl)
   cases A <;> first | (cases hB; done) | cases hj
  ·intro i j A A' b hA hA' _ _ _ _
   rw [(one i A hA).1, (one j A' hA').1]
  ·intro i A b hA la hb
   obtain ⟨rfl, rfl⟩ := one i A hA
   exact hR.heap.notS id _ b hid hl hb
  ·intro i A b hA la hb
   obtain ⟨rfl, rfl⟩ := one i A hA
   exact .inl (hR.may id _ b hid hl hb)
 ·rw [hn0] at hx
  cases hx
  refine ⟨_, fun _ => .slice none 0 0, S', rfl, hR.os, hR.tape, hR.output, hR.size, fun k hk _ => hR.old k hk, hR.mono, hR.new, hR.slt, ar.own (μ := fun _ => .slice none 0 0) 0, ⟨?_, ?_, ?_⟩, ?_, fun i A hA => by simp at hA⟩
  ·intro i A hA
   obtain ⟨rfl, rfl⟩ := one i A hA
   cases A <;> first | cases hem | skip
   exact ⟨fun i x hx => by simp at hx, [], World.ownsRow_nil w' 0 _ _, fun i x j y hx => by simp at hx⟩
  ·intro i j A A' b hA hA' _ _ _ _
   rw [(one i A hA).1, (one j A' hA').1]
  ·intro i A b hA la hb
   simp [az] at hb
  ·intro i A b hA la hb
   simp [az] at hb
theorem ap.vcO {P : Program} {f : FuncId} {fn : Func} {c : Code} {as : List D} {r : D} {B : aE} {V : Prop} (hint : br) (hf : P.funcs[f]? = some fn) (hb : fn.body = some c) (hn : Nat.ble as.length fn.ntmps = true) (hB : B.isArr = true)
  (hv : Proofs.Ytnlmlkbaflmgcaa.vc P fn.ntmps c (G1 P fn r B) hint ⟨kA 0 as, []⟩ = V) (pf : V) : ap P f as [] false r [B] := by
 refine ap.of_evO' hf hb hn hB ?_
 intro C h1 h2 _
 subst h1
 rw [← hv, ← h2] at pf
 exact (rO c _ hint _ pf).mono (fun e st' ⟨h', hk⟩ => C5 hk)
theorem ap.nilcases {P : Program} {f : FuncId} {sz : Nat} {α : Type} {enc : α → List V} {d : α} {l : List α} {as : List D} {al : Bool} {r : D} {H' : List aE}
  (h1 : l ≠ [] → ap P f (.v (.sl sz enc d l) :: as) [] al r H') (h2 : l = [] → ap P f (.nils :: as) [] al r H') (h3 : l = [] → ap P f (.v .esl :: as) [] al r H') : ap P f (.v (.sl sz enc d l) :: as) [] al r H' := by
 by_cases hl : l = []
 ·intro S μ w us hS hH hus
  have hsz := hus.1
  simp only [List.length_cons] at hsz
  have h0 : us[0]? = some us[0] := Array.getElem?_eq_getElem (by omega)
  have hx := bn (hus.2 0 _ _ rfl h0)
  have re : ∀ (x : D), ar S μ w x us[0] → aK S μ w (x :: as) us := fun x hx => ⟨by simp [hsz], fun j y u hy hu => by
   cases j with
   | zero => simp at hy; subst hy; rw [h0] at hu; cases hu; exact hx
   | succ j => exact hus.2 (j + 1) y u (by simpa using hy) hu⟩
  obtain ⟨p, c, hu, q1, q2, q3, q4⟩ := fZ hx
  subst hl
  cases p with
  | none =>
   have := q3 rfl
   subst this
   exact h2 rfl S μ w us hS hH (re _ (by rw [hu]; exact .nils))
  | some p => exact h3 rfl S μ w us hS hH (re _ (by rw [hu]; exact .v _ _ (.esl p c q2)))
 ·exact h1 hl
abbrev KF (P : Program) (g : FuncId) (ds : List D) (H : List aE) (E : List (Nat × D)) (H' N : List aE) (r : D) : Prop := ∀ tm : Array Value, tH P g ds (H ++ [.frame tm E]) r (H' ++ .frame tm E :: N)
def TT : Nat → Prop → Prop
 | 0, p => p
 | n + 1, p => True ∧ TT n p
theorem tt : ∀ {n : Nat} {p : Prop}, p → TT n p
 | 0, _, h => h
 | n + 1, _, h => ⟨trivial, tt h⟩
abbrev CB (b : Bool) (x y : Prop) : Prop := (b = true → x) ∧ (b = false → y)
abbrev CD (P : Prop) [Decidable P] (x y : Prop) : Prop := CB (decide P) x y
abbrev CN (P : Prop) [Decidable P] (x y : Prop) : Prop := CB (!decide P) x y
abbrev CS (P x y : Prop) : Prop := (P → x) ∧ (¬P → y)
theorem cd {P : Prop} [Decidable P] {x y : Prop} (h1 : P → x) (h2 : ¬P → y) : CD P x y := ⟨fun h => h1 (of_decide_eq_true h), fun h => h2 (of_decide_eq_false h)⟩
theorem cn {P : Prop} [Decidable P] {x y : Prop} (h1 : ¬P → x) (h2 : P → y) : CN P x y := ⟨fun h => h1 (by simpa using h), fun h => h2 (by simpa using h)⟩
abbrev GO {σ : Type} (L : Lp σ) (s0 : σ) (body : Prop) : Prop := L.mk s0 = L.mk s0 ∧ L.inv s0 ∧ body
abbrev AG {σ : Type} (L : Lp σ) (s s' : σ) : Prop := L.ag s (L.mk s')
abbrev AT {σ : Type} (L : Lp σ) (s' : σ) : Prop := L.at (L.mk s')
theorem vT {P : Prop} [Decidable P] (h : P) : True ∧ decide P = true := ⟨trivial, decide_eq_true h⟩
theorem vF {P : Prop} [Decidable P] (h : ¬P) : True ∧ decide P = false := ⟨trivial, decide_eq_false h⟩
theorem LX {P : Prop} [Decidable P] (h : ¬P) : (!decide P) = true := by simp [h]
theorem KG {P : Prop} [Decidable P] (h : P) : (!decide P) = false := by simp [h]
theorem nT {P : Prop} [Decidable P] (h : ¬P) : True ∧ (!decide P) = true := ⟨trivial, LX h⟩
theorem nF {P : Prop} [Decidable P] (h : P) : True ∧ (!decide P) = false := ⟨trivial, KG h⟩
theorem LZ {b : Bool} (h : b = true) : b = true := h
theorem LQ {b : Bool} (h : ¬b = true) : b = false := by simpa using h
theorem L0 {b : Bool} (h : ¬b = true) : (!b) = true := by simpa using h
theorem xK {b : Bool} (h : b = true) : (!b) = false := by simp [h]
theorem bT {b : Bool} (h : b = true) : True ∧ b = true := ⟨trivial, h⟩
theorem bF {b : Bool} (h : ¬b = true) : True ∧ b = false := ⟨trivial, LQ h⟩
theorem mT {b : Bool} (h : ¬b = true) : True ∧ (!b) = true := ⟨trivial, L0 h⟩
theorem mF {b : Bool} (h : b = true) : True ∧ (!b) = false := ⟨trivial, xK h⟩
abbrev IX (i n : Int) : Prop := 0 ≤ i ∧ i < n
theorem ix {i n : Int} (h : 0 ≤ i ∧ i < n := by first | omega | (simp; omega)) : IX i n := h
theorem om {p : Prop} (h : p := by first | omega | (simp; first | done | omega)) : p := h
abbrev W6 (x : Int) : Prop := True ∧ IntKind.i64.wrap x = x
theorem w6 {x : Int} (h1 : -9223372036854775808 ≤ x := by first | omega | (simp; first | done | omega)) (h2 : x ≤ 9223372036854775807 := by first | omega | (simp; first | done | omega)) : W6 x := ⟨trivial, qy rfl h1 h2⟩
abbrev QD (a n : Int) : Prop := n ≠ 0 ∧ IntKind.i64.wrap (Int.tdiv a n) = a / n
theorem qd {a n : Int} (h0 : 0 ≤ a := by first | omega | (simp; omega)) (h1 : a ≤ 9223372036854775807 := by first | omega | (simp; omega)) (hn : 0 < n := by first | omega | (simp; omega)) : QD a n := by
 refine ⟨by omega, ?_⟩
 rw [Int.tdiv_eq_ediv_of_nonneg h0, IntKind.wrap_i64]
 have := Int.ediv_nonneg h0 (Int.le_of_lt hn)
 have := Int.ediv_le_self n h0
 omega
abbrev QM (a n : Int) : Prop := n ≠ 0 ∧ Int.tmod a n = a % n
theorem qm {a n : Int} (h0 : 0 ≤ a := by first | omega | (simp; omega)) (hn : 0 < n := by first | omega | (simp; omega)) : QM a n := ⟨by omega, Int.tmod_eq_emod_of_nonneg h0⟩
theorem ap.recast {P : Program} {f : FuncId} {as as' : List D} {al : Bool} {r : D} (h : qi [] as as') (hc : ap P f as' [] al r []) : ap P f as [] al r [] := fun S μ w us hS hH hus =>
 hc S μ w us hS hH (lz hH (fun _ h => h) hS (.inl fun i A b hA => by simp at hA) h hus)
structure Ct : Type 1 where
 f : FuncId
 as : List D
 al : Bool
 r : D
abbrev Ct.O (c : Ct) : Ov := .call none c.al c.r
abbrev Ct.O' (c : Ct) : Ov := .call (some c.as) c.al c.r
abbrev Ct.C (P : Program) (c : Ct) : Prop := ap P c.f c.as [] c.al c.r []
abbrev Ct.K (P : Program) (c : Ct) : Prop := qi [] c.as c.as ∧ ap P c.f c.as [] c.al c.r []
structure Fx : Type 1 where
 f : FuncId
 as : List D
 r : D
 B : aE
abbrev Fx.O (c : Fx) : Ov := .ownd none c.r c.B
abbrev Fx.O' (c : Fx) : Ov := .ownd (some c.as) c.r c.B
mutual
def kQ : D → Bool
 | .v (.mp _) => false
 | .agg cs => fq cs
 | .tup cs => fq cs
 | .fn _ a b => fq a && fq b
 | _ => true
def fq : List D → Bool
 | [] => true
 | d :: r => kQ d && fq r
end
theorem C6 : ∀ (x : V), (∀ es, x ≠ .mp es) → B9 x x
 | .int k n, _ => by simp [B9]
 | .bool b, _ => rfl
 | .str s, _ => rfl
 | .nilf, _ => trivial
 | .nsl, _ => trivial
 | .esl, _ => trivial
 | .sl sz enc d l, _ => by simp [B9]
 | .sm ag enc d l, _ => by simp [B9]
 | .nmp, _ => trivial
 | .mp es, h => (h es rfl).elim
theorem C7 : ∀ (x : D), kQ x = true → Fd x x
 | .v x, h => C6 x (fun es e => by subst e; simp [kQ] at h)
 | .nils, _ => rfl
 | .own i, _ => rfl
 | .ptr _ _ _ _, _ => rfl
 | .iptr cs o, _ => by simp [Fd]
 | .agg _, _ => rfl
 | .tup _, _ => rfl
 | .fn _ _ _, _ => rfl
 | .yld _, _ => rfl
 | .capd _, _ => rfl
 | .junk, _ => trivial
theorem wI (x : D) (h : kQ x = true) : Fe [] x x := by
 cases x <;> exact C7 _ h
theorem wJ : ∀ (l : List D), fq l = true → Ja [] l l
 | [], _ => trivial
 | d :: r, h => by simp only [fq, Bool.and_eq_true] at h; exact ⟨wI d h.1, wJ r h.2⟩
theorem wK (x : D) (h : kQ x = true) : IY [] x x := by
 cases x <;> exact wI _ h
theorem rQ : ∀ (l : List D), fq l = true → Jc [] l l
 | [], _ => trivial
 | d :: r, h => by simp only [fq, Bool.and_eq_true] at h; exact ⟨wK d h.1, rQ r h.2⟩
theorem wL (x : D) (h : kQ x = true) : Ku [] x x := by
 cases x with
 | agg xs => exact wJ _ (by simpa [kQ] using h)
 | fn f a b => simp only [kQ, Bool.and_eq_true] at h; exact ⟨rfl, rQ a h.1, rQ b h.2⟩
 | _ => exact wK _ h
theorem kR : ∀ (l : List D), fq l = true → qi [] l l
 | [], _ => trivial
 | d :: r, h => by simp only [fq, Bool.and_eq_true] at h; exact ⟨wL d h.1, kR r h.2⟩
end Go.Proofs.Ytnlmlkbaflmgcaa
