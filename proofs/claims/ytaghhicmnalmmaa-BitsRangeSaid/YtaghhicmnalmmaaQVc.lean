/-
  What is owed of a function's code, computed: one condition for all its ways. Generic: over any program.
-/
import Derived.Test.YtaghhicmnalmmaaQDr
import Derived.LoopNIn
namespace Go.Proofs.Ytaghhicmnalmmaa
open Go.RowKit
set_option linter.unusedVariables false
set_option linter.unusedSimpArgs false
structure Lp (σ : Type) : Type 1 where
 make ::
 keep : List Nat
 n : Nat
 all : (σ → Prop) → Prop
 hall : ∀ P, all P → ∀ s, P s
 mk : σ → St
 inv : σ → Prop
 m : σ → Nat
abbrev sG {α : Type} (keep : List Nat) (n : Nat) (mk : α → St) (inv : α → Prop) (m : α → Nat) : Lp α := ⟨keep, n, fun P => ∀ a, P a, fun _ h => h, mk, inv, m⟩
def Lp.ag {σ : Type} (L : Lp σ) (s : σ) (st : St) : Prop := ∃ s', st = L.mk s' ∧ L.inv s' ∧ L.m s' < L.m s
def Lp.at {σ : Type} (L : Lp σ) (st : St) : Prop := ∃ s', st = L.mk s' ∧ L.inv s'
inductive aM : Type 1
 | e
 | w (id : Nat) (o : List (Nat × Ov)) (h : aM)
 | q (id : Nat) (keep : List Nat) (n : Nat) (h : aM)
 | f (id b : Nat) (h : aM)
 | g (id i j E sz : Nat) {α : Type} (enc : α → List V) (d : α) (h : aM)
 | gs (id t E sz : Nat) {α : Type} (enc : α → List V) (d : α) (h : aM)
 | mv (id j i : Nat) (h : aM)
 | s (id : Nat) (P : Prop) (x y : aM)
 | y (id : Nat) (o : List (Nat × Ov)) (tab : mG) (h : aM)
 | c (t : Nat) (P : Prop) [i : Decidable P] (x y : aM)
 | n (t : Nat) (P : Prop) [i : Decidable P] (x y : aM)
 | b (t : Nat) (x y : aM)
 | t (t : Nat) (x : aM)
 | u (t : Nat) (x : aM)
 | l {σ : Type} (L : Lp σ) (s0 : σ) (h : σ → aM)
 | r (n : Nat) (h : aM)
 | k (id : Nat) {σ : Type} (L : Lp σ) (x : aM) (h : σ → aM)
def rQ (o : Oper) : Bool := match o.op with
 | .store _ _ _ => true
 | .call ⟨.builtin .append, _, _⟩ => true
 | .call ⟨.builtin .copy, _, _⟩ => true
 | _ => false
def rR : Ov → Bool
 | .inl _ _ _ => true
 | .inls _ => true
 | _ => false
def rS : Ov → Bool
 | .app _ _ _ _ _ _ => true
 | _ => false
def rT : Ov → Bool
 | .val .junk => true
 | _ => false
def nx (ovs : List (Nat × Ov)) : List Nat → Nat → List Oper → Nat
 | _, _, [] => 0
 | rd, i, o :: r => if (rQ o && !(rS (dW ovs i) || rT (dW ovs i))) || rR (dW ovs i) || (match o.dst with | some t => rd.any (fun s => Nat.beq t s) | none => false) then 0 else nx ovs (gN o.op ++ rd) (i + 1) r + 1
def ra (P : Program) (nt : Nat) (ops : List Oper) (ovs : List (Nat × Ov)) (tab : mG) (st : St) (k : St → Prop) : Prop :=
 match P.follows .mixedOrders && ops.all (fun o => !bF o), eJ tab (List.replicate ops.length false), eJ tab (List.replicate ops.length true) with
 | true, some st0, some st1 => mH st st0 = st0 ∧ pS P nt ops ovs tab tab ∧ nS st1 k
 | _, _, _ => False
def pre (id : Nat) : aM → St → (List (Nat × Ov) → Option mG → aM → St → Prop) → Prop
 | .w i o h, st, k => match Nat.beq i id with
  | true => k o none h st
  | false => k [] none (.w i o h) st
 | .y i o t h, st, k => match Nat.beq i id with
  | true => k o (some t) h st
  | false => k [] none (.y i o t h) st
 | .q i kp n h, st, k => match Nat.beq i id with
  | true => nS (keepS kp n st) (fun st' => pre id h st' k)
  | false => k [] none (.q i kp n h) st
 | .f i b h, st, k => match Nat.beq i id with
  | true => match eY b st with
   | some st' => nS st' (fun st' => pre id h st' k)
   | none => False
  | false => k [] none (.f i b h) st
 | .g i a j E sz enc d h, st, k => match Nat.beq i id with
  | true => match mE a j E sz enc d st with
   | some st' => nS st' (fun st' => pre id h st' k)
   | none => False
  | false => k [] none (.g i a j E sz enc d h) st
 | .gs i t E sz enc d h, st, k => match Nat.beq i id with
  | true => match adoptE t E sz enc d st with
   | some st' => nS st' (fun st' => pre id h st' k)
   | none => False
  | false => k [] none (.gs i t E sz enc d h) st
 | .mv i j a h, st, k => match Nat.beq i id with
  | true => match nk j a st with
   | some st' => nS st' (fun st' => pre id h st' k)
   | none => False
  | false => k [] none (.mv i j a h) st
 | .s i P x y, st, k => match Nat.beq i id with
  | true => (P → pre id x st k) ∧ (¬P → pre id y st k)
  | false => k [] none (.s i P x y) st
 | h, st, k => k [] none h st
def rU : Operand → Nat
 | .tmp t => t + 1
 | _ => 0
def jl (t : Nat) (b : Bool) (X Y : aM → Prop) : aM → Prop
 | @aM.c t' P i x y => match Nat.beq (t' + 1) t with
  | true => b = @decide P i ∧ (P → X x) ∧ (¬P → Y y)
  | false => match b with | true => X (@aM.c t' P i x y) | false => Y (@aM.c t' P i x y)
 | @aM.n t' P i x y => match Nat.beq (t' + 1) t with
  | true => b = (!@decide P i) ∧ (¬P → X x) ∧ (P → Y y)
  | false => match b with | true => X (@aM.n t' P i x y) | false => Y (@aM.n t' P i x y)
 | .b t' x y => match Nat.beq (t' + 1) t with
  | true => (b = true → X x) ∧ (b = false → Y y)
  | false => match b with | true => X (.b t' x y) | false => Y (.b t' x y)
 | .t t' x => match Nat.beq (t' + 1) t with
  | true => b = true ∧ X x
  | false => match b with | true => X (.t t' x) | false => Y (.t t' x)
 | .u t' x => match Nat.beq (t' + 1) t with
  | true => b = false ∧ Y x
  | false => match b with | true => X (.u t' x) | false => Y (.u t' x)
 | h => match b with | true => X h | false => Y h
def pY : Code → Option Nat
 | .region id _ _ => some id
 | .seq a _ => pY a
 | .block _ a => pY a
 | .loop a => pY a
 | _ => none
def rV (x : Code) : aM → Bool
 | .k id _ _ _ => match pY x with | some i => Nat.beq i id | none => false
 | _ => false
@[reducible] def kSeq (n : aM → St → Prop) (K : aM → Exit → St → Prop) (h : aM) (e : Exit) (st : St) : Prop := match e with
 | .normal => n h st
 | e => K h e st
@[reducible] def kBlock (id : Nat) (K : aM → Exit → St → Prop) (h : aM) (e : Exit) (st : St) : Prop := match e with
 | .exit i => match Nat.beq i id with | true => K h .normal st | false => K h (.exit i) st
 | e => K h e st
def pZ (body : (aM → Exit → St → Prop) → aM → St → Prop) (K : aM → Exit → St → Prop) : Nat → aM → St → Prop
 | 0, _, _ => False
 | n + 1, h, st => body (fun h' e st' => match e with | .normal => pZ body K n h' st' | e => K h' e st') h st
def vc (P : Program) (nt : Nat) : Code → (aM → Exit → St → Prop) → aM → St → Prop
 | .skip, K, h, st => K h .normal st
 | .label _, K, h, st => K h .normal st
 | .exit i, K, h, st => K h (.exit i) st
 | .ret, K, h, st => K h .ret st
 | .seq x y, K, h, st => match rV x h with
  | false => vc P nt x (kSeq (vc P nt y K) K) h st
  | true => match h with
   | .k _ L hx hy => vc P nt x (fun h' e st' => match e with | .normal => L.at (keepS L.keep L.n st') | e => K h' e st') hx st ∧ L.all (fun s => L.inv s → vc P nt y K (hy s) (L.mk s))
   | _ => False
 | .block i c, K, h, st => vc P nt c (kBlock i K) h st
 | .cond c x y, K, h, st => match b3 st.env c with
  | .v (.bool b) => jl (rU c) b (fun h => vc P nt x K h st) (fun h => vc P nt y K h st) h
  | _ => False
 | .loop c, K, h, st => match h with
  | .l L s0 hb => keepS L.keep L.n st = L.mk s0 ∧ L.inv s0 ∧ L.all (fun s => L.inv s → vc P nt c (fun h' e st' => match e with | .normal => L.ag s (keepS L.keep L.n st') | e => K h' e st') (hb s) (L.mk s))
  | .r n h => pZ (fun K => vc P nt c K) K n h st
  | _ => False
 | .region id ops draw, K, h, st => pre id h st fun o t h st => match t with
  | some tab => match draw with
   | true => ra P nt ops.toList o tab st (fun st => K h .normal st)
   | false => False
  | none => match draw with
   | false => jE P nt ops.toList o 0 ops.toList st (fun st => nS st (fun st => K h .normal st))
   | true => qZ P nt ops.toList o (nx o [] 0 ops.toList) st (fun st => nS st (fun st => K h .normal st))
 | _, _, _, _ => False
section
variable {C : er} {Q : Exit → St → Prop}
theorem Ev.regA {st st' : St} {id : Nat} {ops : List Oper} (ovs : List (Nat × Ov)) {p : Prop} (h : bh C.P C.nt ops ovs 0 ops st = (st', p)) (hp : p) (hq : Q .normal st') : Ev C (.region id ops.toArray false) Q st := fun a w S μ hR =>
 wpIn_region_lit (cI ops 0 st S μ a w p hR h hp (fun S' μ' a' w' hR' => ⟨_, S', μ', hq, hR'⟩))
theorem rb {id : Nat} {c : Code} {k : List (Nat × Ov) → Option mG → aM → St → Prop} (hk : ∀ o t h st, k o t h st → Ev C c Q st) : ∀ (h : aM) (st : St), pre id h st k → Ev C c Q st := by
 intro h
 induction h with
 | w i o h ih => intro st hp; unfold pre at hp; split at hp <;> exact hk _ _ _ _ hp
 | y i o t h ih => intro st hp; unfold pre at hp; split at hp <;> exact hk _ _ _ _ hp
 | q i kp n h ih =>
  intro st hp; unfold pre at hp; split at hp
  ·rw [ic] at hp; exact Ev.keep kp n rfl (ih _ hp)
  ·exact hk _ _ _ _ hp
 | f i b h ih =>
  intro st hp; unfold pre at hp; split at hp
  ·split at hp
   ·rename_i st' hf; rw [ic] at hp; exact Ev.freeze b hf (ih _ hp)
   ·exact hp.elim
  ·exact hk _ _ _ _ hp
 | g i a j E sz enc d h ih =>
  intro st hp; unfold pre at hp; split at hp
  ·split at hp
   ·rename_i st' hf; rw [ic] at hp; exact Ev.adopt a j E sz enc d hf (ih _ hp)
   ·exact hp.elim
  ·exact hk _ _ _ _ hp
 | gs i t E sz enc d h ih =>
  intro st hp; unfold pre at hp; split at hp
  ·split at hp
   ·rename_i st' hf; rw [ic] at hp; exact Ev.adoptE t E sz enc d hf (ih _ hp)
   ·exact hp.elim
  ·exact hk _ _ _ _ hp
 | mv i j a h ih =>
  intro st hp; unfold pre at hp; split at hp
  ·split at hp
   ·rename_i st' hf; rw [ic] at hp; exact Ev.move j a hf (ih _ hp)
   ·exact hp.elim
  ·exact hk _ _ _ _ hp
 | s i P x y ih1 ih2 =>
  intro st hp; unfold pre at hp; split at hp
  ·by_cases hP : P
   ·exact ih1 _ (hp.1 hP)
   ·exact ih2 _ (hp.2 hP)
  ·exact hk _ _ _ _ hp
 | _ => intro st hp; unfold pre at hp; exact hk _ _ _ _ hp
theorem cP {b : Bool} {X Y : aM → Prop} (h : aM) (hh : match b with | true => X h | false => Y h) : (b = true → ∃ h', X h') ∧ (b = false → ∃ h', Y h') := by
 cases b
 ·exact ⟨fun h => (by cases h), fun _ => ⟨_, hh⟩⟩
 ·exact ⟨fun _ => ⟨_, hh⟩, fun h => (by cases h)⟩
theorem pj {t : Nat} {b : Bool} {X Y : aM → Prop} {h : aM} (hc : jl t b X Y h) : (b = true → ∃ h', X h') ∧ (b = false → ∃ h', Y h') := by
 cases h with
 | c t' P x y =>
  simp only [jl] at hc; split at hc
  ·obtain ⟨h1, h2, h3⟩ := hc
   subst h1
   exact ⟨fun h => ⟨_, h2 (of_decide_eq_true h)⟩, fun h => ⟨_, h3 (of_decide_eq_false h)⟩⟩
  ·exact cP _ hc
 | n t' P x y =>
  simp only [jl] at hc; split at hc
  ·obtain ⟨h1, h2, h3⟩ := hc
   subst h1
   exact ⟨fun h => ⟨_, h2 (by simpa using h)⟩, fun h => ⟨_, h3 (by simpa using h)⟩⟩
  ·exact cP _ hc
 | b t' x y =>
  simp only [jl] at hc; split at hc
  ·exact ⟨fun h => ⟨_, hc.1 h⟩, fun h => ⟨_, hc.2 h⟩⟩
  ·exact cP _ hc
 | t t' x =>
  simp only [jl] at hc; split at hc
  ·exact ⟨fun h => ⟨_, hc.2⟩, fun h => (by rw [hc.1] at h; cases h)⟩
  ·exact cP _ hc
 | u t' x =>
  simp only [jl] at hc; split at hc
  ·exact ⟨fun h => (by rw [hc.1] at h; cases h), fun h => ⟨_, hc.2⟩⟩
  ·exact cP _ hc
 | _ => exact cP _ hc
theorem oe {id : Nat} {ops : Array Oper} {draw : Bool} {h : aM} {st : St} {K : aM → Exit → St → Prop} (hv : vc C.P C.nt (.region id ops draw) K h st) (hK : ∀ h st, K h .normal st → Q .normal st) : Ev C (.region id ops draw) Q st := by
 unfold vc at hv
 refine rb ?_ h st hv
 intro o t h st hq
 have ha : ops = ops.toList.toArray := by simp
 cases t with
 | some tab =>
  cases draw with
  | false => exact hq.elim
  | true =>
   change ra C.P C.nt ops.toList o tab st _ at hq
   unfold ra at hq
   cases hb : C.P.follows .mixedOrders && ops.toList.all (fun o => !bF o) with
   | false => rw [hb] at hq; exact hq.elim
   | true =>
   cases h0 : eJ tab (List.replicate ops.toList.length false) with
   | none => rw [hb, h0] at hq; exact hq.elim
   | some st0 =>
   cases h1 : eJ tab (List.replicate ops.toList.length true) with
   | none => rw [hb, h0, h1] at hq; exact hq.elim
   | some st1 =>
   rw [hb, h0, h1] at hq
   simp only [Bool.and_eq_true] at hb
   obtain ⟨q1, q2, q3⟩ := hq
   rw [ic] at q3
   rw [ha]
   exact Ev.any (st' := st1) o tab hb.1 hb.2 h0 q1 h1 rfl q2 (hK _ _ q3)
 | none =>
  cases draw with
  | false =>
   obtain ⟨h1, h2⟩ := iH _ _ _ _ hq
   rw [ic] at h2
   rw [ha]
   exact Ev.regA o rfl h1 (hK _ _ h2)
  | true =>
   rw [ha]
   refine Ev.dw o (nx o [] 0 ops.toList) ?_
   have hq' : qZ C.P C.nt ops.toList o (nx o [] 0 ops.toList) st (fun st => nS st (fun st => K h .normal st)) := by simpa using hq
   exact pg hq' (fun st1 h1 => hK _ _ (by rwa [ic] at h1))
theorem jm {c : Code} (ih : ∀ (K : aM → Exit → St → Prop) (h : aM) (st : St), vc C.P C.nt c K h st → Ev C c (fun e st => ∃ h', K h' e st) st) (K : aM → Exit → St → Prop) : ∀ (n : Nat) (h : aM) (st : St) (S : Nat → Prop) (μ : Nat → Value) (a : Act) (w : World), aC C S μ st a w →
  pZ (fun K => vc C.P C.nt c K) K n h st → Code.roundsIn (ee C.rd) 0 C.P c (fun e a' w' => ∃ st' S' μ', (∃ h', K h' e st') ∧ aC C S' μ' st' a' w') n a w
 | 0, h, st, S, μ, a, w, hR, hv => hv.elim
 | n + 1, h, st, S, μ, a, w, hR, hv => by
  rw [roundsIn_succ]
  refine wpIn_mono (ih _ _ _ hv a w S μ hR) ?_
  rintro e a' w' ⟨st', S', μ', ⟨h', hq⟩, hR'⟩
  cases e with
  | normal => exact jm ih K n h' st' S' μ' a' w' hR' hq
  | exit i => exact ⟨st', S', μ', ⟨h', hq⟩, hR'⟩
  | goto l => exact ⟨st', S', μ', ⟨h', hq⟩, hR'⟩
  | ret => exact ⟨st', S', μ', ⟨h', hq⟩, hR'⟩
  | panic ch => exact ⟨st', S', μ', ⟨h', hq⟩, hR'⟩
  | outgrown => exact ⟨st', S', μ', ⟨h', hq⟩, hR'⟩
theorem oh {c : Code} (ih : ∀ (K : aM → Exit → St → Prop) (h : aM) (st : St), vc C.P C.nt c K h st → Ev C c (fun e st => ∃ h', K h' e st) st) (K : aM → Exit → St → Prop) (n : Nat) (h : aM) (st : St) (hv : pZ (fun K => vc C.P C.nt c K) K n h st) : Ev C (.loop c) (fun e st => ∃ h', K h' e st) st :=
 fun a w S μ hR => wpIn_loop_rounds n (jm ih K n h st S μ a w hR hv)
theorem lW : ∀ (c : Code) (K : aM → Exit → St → Prop) (h : aM) (st : St), vc C.P C.nt c K h st → Ev C c (fun e st => ∃ h', K h' e st) st := by
 intro c
 induction c with
 | skip => intro K h st hv; exact Ev.skip ⟨h, hv⟩
 | label l => intro K h st hv; exact Ev.label ⟨h, hv⟩
 | exit i => intro K h st hv; exact Ev.exit ⟨h, hv⟩
 | ret => intro K h st hv; exact Ev.ret ⟨h, hv⟩
 | region id ops draw => intro K h st hv; exact oe hv (fun h st hk => ⟨h, hk⟩)
 | seq x y ihx ihy =>
  intro K h st hv
  unfold vc at hv
  split at hv
  ·refine Ev.seq ((ihx _ _ _ hv).mono ?_)
   rintro e st' ⟨h', hq⟩
   cases e with
   | normal => exact ihy _ _ _ hq
   | exit i => exact ⟨h', hq⟩
   | goto l => exact ⟨h', hq⟩
   | ret => exact ⟨h', hq⟩
   | panic ch => exact ⟨h', hq⟩
   | outgrown => exact ⟨h', hq⟩
  ·cases h with
   | k id L hx hy =>
    obtain ⟨h1, h2⟩ := hv
    refine Ev.cut L.keep L.n L.mk L.inv ((ihx _ _ _ h1).mono ?_) (fun s hs => ihy _ _ _ (L.hall _ h2 s hs))
    rintro e st' ⟨h', hq⟩
    cases e with
    | normal => exact hq
    | exit i => exact ⟨h', hq⟩
    | goto l => exact ⟨h', hq⟩
    | ret => exact ⟨h', hq⟩
    | panic ch => exact ⟨h', hq⟩
    | outgrown => exact ⟨h', hq⟩
   | _ => exact hv.elim
 | cond c x y ihx ihy =>
  intro K h st hv
  unfold vc at hv
  split at hv
  ·rename_i b hb
   obtain ⟨h1, h2⟩ := pj hv
   exact Ev.cond b hb (fun hb => by obtain ⟨h', q⟩ := h1 hb; exact ihx _ _ _ q) (fun hb => by obtain ⟨h', q⟩ := h2 hb; exact ihy _ _ _ q)
  ·exact hv.elim
 | block i c ih =>
  intro K h st hv
  unfold vc at hv
  refine Ev.block ((ih _ _ _ hv).mono ?_)
  rintro e st' ⟨h', hq⟩
  cases e with
  | exit j =>
   show (if Nat.beq j i = true then _ else _)
   change (match Nat.beq j i with | true => K h' .normal st' | false => K h' (.exit j) st') at hq
   by_cases hj : Nat.beq j i = true
   ·rw [hj] at hq; rw [if_pos hj]; exact ⟨h', hq⟩
   ·rw [if_neg hj]
    simp only [Bool.not_eq_true] at hj
    rw [hj] at hq
    exact ⟨h', hq⟩
  | normal => exact ⟨h', hq⟩
  | goto l => exact ⟨h', hq⟩
  | ret => exact ⟨h', hq⟩
  | panic ch => exact ⟨h', hq⟩
  | outgrown => exact ⟨h', hq⟩
 | loop c ih =>
  intro K h st hv
  unfold vc at hv
  split at hv
  ·rename_i σ L s0 hb
   obtain ⟨h1, h2, h3⟩ := hv
   refine Ev.loop L.keep L.n L.mk L.inv L.m s0 h1 h2 ?_
   intro s hs
   refine (ih _ _ _ (L.hall _ h3 s hs)).mono ?_
   rintro e st' ⟨h', hq⟩
   cases e with
   | normal => exact hq
   | exit i => exact ⟨h', hq⟩
   | goto l => exact ⟨h', hq⟩
   | ret => exact ⟨h', hq⟩
   | panic ch => exact ⟨h', hq⟩
   | outgrown => exact ⟨h', hq⟩
  ·exact oh ih K _ _ _ hv
  ·exact hv.elim
 | _ => intro K h st hv; exact (by unfold vc at hv; exact hv.elim)
end
def k9 (P : Program) (st : St) : List ResultVar → (List D → Prop) → Prop
 | [], k => k []
 | r :: rs, k => match nX P st r with
  | (d, p) => p ∧ k9 P st rs (fun ds => k (d :: ds))
theorem lc {P : Program} {st : St} : ∀ (rs : List ResultVar) (k : List D → Prop), k9 P st rs k → (resL P st rs).2 ∧ k (resL P st rs).1
 | [], k, h => ⟨trivial, h⟩
 | r :: rs, k, h => by
  unfold k9 at h
  unfold resL
  generalize hq : nX P st r = q at h
  obtain ⟨d, p⟩ := q
  obtain ⟨h1, h2⟩ := h
  obtain ⟨h3, h4⟩ := lc rs _ h2
  exact ⟨⟨h1, h3⟩, h4⟩
def rX (H : List ak) : D → D → Prop
 | .tup xs, .tup ys => rF H xs ys
 | x, y => qF H x y
def sn : D → D → Prop
 | .tup xs, .tup ys => sm xs ys
 | x, y => qS x y
def rc : List D → D
 | [d] => d
 | ds => .tup ds
def re (al : Bool) (H : List ak) (x r : D) : Prop := match al with
 | true => rX H x r
 | false => rX H x r ∧ sn x r
def rY (P : Program) (fn : Func) (al : Bool) (r : D) (_ : aM) (e : Exit) (st : St) : Prop := match e with
 | .normal => k9 P st fn.results.toList (fun ds => re al st.heap (rc ds) r)
 | .ret => k9 P st fn.results.toList (fun ds => re al st.heap (rc ds) r)
 | _ => False
theorem ny {P : Program} {st : St} {rs : List ResultVar} : nY P rs st = (rc (resL P st rs).1, (resL P st rs).2) := by
 unfold nY
 generalize resL P st rs = q
 obtain ⟨ds, p⟩ := q
 match ds with
 | [] => rfl
 | [d] => rfl
 | d :: e :: r => rfl
theorem nz {al : Bool} {H : List ak} {x r : D} (h1 : rX H x r) (h2 : al = true ∨ sn x r) : lL al H x r := by
 unfold lL
 split
 ·exact ⟨h1, h2⟩
 ·rename_i hne
  have e1 : rX H x r = qF H x r := by
   unfold rX; split
   ·exact (hne _ _ rfl rfl).elim
   ·rfl
  have e2 : sn x r = qS x r := by
   unfold sn; split
   ·exact (hne _ _ rfl rfl).elim
   ·rfl
  rw [e1] at h1; rw [e2] at h2
  exact ⟨h1, h2⟩
theorem p5 {P : Program} {fn : Func} {al : Bool} {r : D} {h : aM} {e : Exit} {st : St} (hk : rY P fn al r h e st) : rM P fn al r e st := by
 have key : k9 P st fn.results.toList (fun ds => re al st.heap (rc ds) r) → dH P fn st ∧ lL al st.heap (fI P fn st) r := by
  intro hq
  obtain ⟨h1, h2⟩ := lc _ _ hq
  unfold dH fI
  rw [ny]
  refine ⟨h1, ?_⟩
  cases al
  ·exact nz h2.1 (.inr h2.2)
  ·exact nz h2 (.inl rfl)
 cases e with
 | normal => exact key hk
 | ret => exact key hk
 | exit i => exact hk.elim
 | goto l => exact hk.elim
 | panic ch => exact hk.elim
 | outgrown => exact hk.elim
theorem ai.vc {P : Program} {f : FuncId} {fn : Func} {c : Code} {as : List D} {al : Bool} {r : D} {V : Prop} (hint : aM) (hf : P.funcs[f]? = some fn) (hb : fn.body = some c) (hn : Nat.ble as.length fn.ntmps = true) (hr : bR r = true)
  (hv : Proofs.Ytaghhicmnalmmaa.vc P fn.ntmps c (rY P fn al r) hint ⟨ey 0 as, []⟩ = V) (pf : V) : ai P f as [] al r [] := by
 refine ai.of_ev hf hb hn hr ?_
 intro C h1 h2 _
 subst h1
 rw [← hv, ← h2] at pf
 exact (lW c _ hint _ pf).mono (fun e st' ⟨h', hk⟩ => p5 hk)
def rZ (P : Program) (fn : Func) (r : D) (H : List ak) (_ : aM) (e : Exit) (st : St) : Prop := match e with
 | .normal => k9 P st fn.results.toList (fun ds => kK (rc ds) r ∧ st.heap.take H.length = H)
 | .ret => k9 P st fn.results.toList (fun ds => kK (rc ds) r ∧ st.heap.take H.length = H)
 | _ => False
theorem p6 {P : Program} {fn : Func} {r : D} {H : List ak} {h : aM} {e : Exit} {st : St} (hk : rZ P fn r H h e st) : rK P fn r H e st := by
 have key : k9 P st fn.results.toList (fun ds => kK (rc ds) r ∧ st.heap.take H.length = H) → dH P fn st ∧ kK (fI P fn st) r ∧ st.heap.take H.length = H := by
  intro hq
  obtain ⟨h1, h2⟩ := lc _ _ hq
  unfold dH fI
  rw [ny]
  exact ⟨h1, h2⟩
 cases e with
 | normal => exact key hk
 | ret => exact key hk
 | exit i => exact hk.elim
 | goto l => exact hk.elim
 | panic ch => exact hk.elim
 | outgrown => exact hk.elim
theorem jY.vc {P : Program} {f : FuncId} {fn : Func} {c : Code} {ds : List D} {H H' : List ak} {r : D} {V : Prop} (hint : aM) (hf : P.funcs[f]? = some fn) (hb : fn.body = some c) (hn : Nat.ble ds.length fn.ntmps = true)
  (hv : Proofs.Ytaghhicmnalmmaa.vc P fn.ntmps c (rZ P fn r H') hint ⟨ey 0 ds, H⟩ = V) (pf : V) : jY P f ds H r H' := by
 refine ⟨fn, c, hf, hb, hn, ?_⟩
 intro C h1 h2 _
 subst h1
 rw [← hv, ← h2] at pf
 exact (lW c _ hint _ pf).mono (fun e st' ⟨h', hk⟩ => p6 hk)
def TT : Nat → Prop → Prop
 | 0, p => p
 | n + 1, p => True ∧ TT n p
theorem tt : ∀ {n : Nat} {p : Prop}, p → TT n p
 | 0, _, h => h
 | n + 1, _, h => ⟨trivial, tt h⟩
abbrev CB (b : Bool) (x y : Prop) : Prop := (b = true → x) ∧ (b = false → y)
abbrev CD (P : Prop) [Decidable P] (x y : Prop) : Prop := CB (decide P) x y
abbrev CN (P : Prop) [Decidable P] (x y : Prop) : Prop := CB (!decide P) x y
abbrev CS (P x y : Prop) : Prop := (P → x) ∧ (¬P → y)
theorem cd {P : Prop} [Decidable P] {x y : Prop} (h1 : P → x) (h2 : ¬P → y) : CD P x y := ⟨fun h => h1 (of_decide_eq_true h), fun h => h2 (of_decide_eq_false h)⟩
theorem cn {P : Prop} [Decidable P] {x y : Prop} (h1 : ¬P → x) (h2 : P → y) : CN P x y := ⟨fun h => h1 (by simpa using h), fun h => h2 (by simpa using h)⟩
abbrev GO {σ : Type} (L : Lp σ) (s0 : σ) (body : Prop) : Prop := L.mk s0 = L.mk s0 ∧ L.inv s0 ∧ body
abbrev AG {σ : Type} (L : Lp σ) (s s' : σ) : Prop := L.ag s (L.mk s')
theorem vT {P : Prop} [Decidable P] (h : P) : True ∧ decide P = true := ⟨trivial, decide_eq_true h⟩
theorem vF {P : Prop} [Decidable P] (h : ¬P) : True ∧ decide P = false := ⟨trivial, decide_eq_false h⟩
theorem sH {P : Prop} [Decidable P] (h : ¬P) : (!decide P) = true := by simp [h]
theorem sI {P : Prop} [Decidable P] (h : P) : (!decide P) = false := by simp [h]
theorem nT {P : Prop} [Decidable P] (h : ¬P) : True ∧ (!decide P) = true := ⟨trivial, sH h⟩
theorem nF {P : Prop} [Decidable P] (h : P) : True ∧ (!decide P) = false := ⟨trivial, sI h⟩
theorem sw {b : Bool} (h : ¬b = true) : (!b) = true := by simpa using h
theorem sx {b : Bool} (h : b = true) : (!b) = false := by simp [h]
theorem mT {b : Bool} (h : ¬b = true) : True ∧ (!b) = true := ⟨trivial, sw h⟩
theorem mF {b : Bool} (h : b = true) : True ∧ (!b) = false := ⟨trivial, sx h⟩
abbrev IX (i n : Int) : Prop := 0 ≤ i ∧ i < n
theorem ix {i n : Int} (h : 0 ≤ i ∧ i < n := by first | omega | (simp; omega)) : IX i n := h
theorem om {p : Prop} (h : p := by first | omega | (simp; first | done | omega)) : p := h
abbrev W6 (x : Int) : Prop := True ∧ IntKind.i64.wrap x = x
theorem w6 {x : Int} (h1 : -9223372036854775808 ≤ x := by first | omega | (simp; first | done | omega)) (h2 : x ≤ 9223372036854775807 := by first | omega | (simp; first | done | omega)) : W6 x := ⟨trivial, sF rfl h1 h2⟩
abbrev QM (a n : Int) : Prop := n ≠ 0 ∧ Int.tmod a n = a % n
theorem qm {a n : Int} (h0 : 0 ≤ a := by first | omega | (simp; omega)) (hn : 0 < n := by first | omega | (simp; omega)) : QM a n := ⟨by omega, Int.tmod_eq_emod_of_nonneg h0⟩
structure Ct : Type 1 where
 f : FuncId
 as : List D
 al : Bool
 r : D
abbrev Ct.O (c : Ct) : Ov := .call none c.al c.r
abbrev Ct.O' (c : Ct) : Ov := .call (some c.as) c.al c.r
abbrev Ct.C (P : Program) (c : Ct) : Prop := ai P c.f c.as [] c.al c.r []
abbrev Ct.K (P : Program) (c : Ct) : Prop := oU [] c.as c.as ∧ ai P c.f c.as [] c.al c.r []
structure so : Type 1 where
 f : FuncId
 as : List D
 r : D
 B : ak
abbrev so.O (c : so) : Ov := .ownd none c.r c.B
abbrev so.O' (c : so) : Ov := .ownd (some c.as) c.r c.B
mutual
def eK : D → Bool
 | .v (.mp _) => false
 | .agg cs => b9 cs
 | .tup cs => b9 cs
 | .fn _ a b => b9 a && b9 b
 | _ => true
def b9 : List D → Bool
 | [] => true
 | d :: r => eK d && b9 r
end
theorem pk : ∀ (x : V), (∀ es, x ≠ .mp es) → qD x x
 | .int k n, _ => by simp [qD]
 | .bool b, _ => rfl
 | .str s, _ => rfl
 | .nilf, _ => trivial
 | .nsl, _ => trivial
 | .esl, _ => trivial
 | .sl sz enc d l, _ => by simp [qD]
 | .mp es, h => (h es rfl).elim
theorem pl : ∀ (x : D), eK x = true → pM x x
 | .v x, h => pk x (fun es e => by subst e; simp [eK] at h)
 | .nils, _ => rfl
 | .own i, _ => rfl
 | .ptr _ _ _ _, _ => rfl
 | .iptr cs o, _ => by simp [pM]
 | .agg _, _ => rfl
 | .tup _, _ => rfl
 | .fn _ _ _, _ => rfl
 | .yld _, _ => rfl
 | .capd _, _ => rfl
 | .junk, _ => trivial
theorem lX (x : D) (h : eK x = true) : pN [] x x := by
 cases x <;> exact pl _ h
theorem lY : ∀ (l : List D), b9 l = true → rE [] l l
 | [], _ => trivial
 | d :: r, h => by simp only [b9, Bool.and_eq_true] at h; exact ⟨lX d h.1, lY r h.2⟩
theorem lZ (x : D) (h : eK x = true) : ru [] x x := by
 cases x <;> exact lX _ h
theorem jn : ∀ (l : List D), b9 l = true → rG [] l l
 | [], _ => trivial
 | d :: r, h => by simp only [b9, Bool.and_eq_true] at h; exact ⟨lZ d h.1, jn r h.2⟩
theorem pm (x : D) (h : eK x = true) : si [] x x := by
 cases x with
 | agg xs => exact lY _ (by simpa [eK] using h)
 | fn f a b => simp only [eK, Bool.and_eq_true] at h; exact ⟨rfl, jn a h.1, jn b h.2⟩
 | _ => exact lZ _ h
theorem eL : ∀ (l : List D), b9 l = true → oU [] l l
 | [], _ => trivial
 | d :: r, h => by simp only [b9, Bool.and_eq_true] at h; exact ⟨pm d h.1, eL r h.2⟩
end Go.Proofs.Ytaghhicmnalmmaa
