/-
  What is owed of a function's code, computed: one condition for all its ways. Generic: over any program.
-/
import Derived.Test.YtckgpflobhpnpaaGreatQGr
import Derived.LoopNIn
namespace Go.Proofs.YtckgpflobhpnpaaGreat
open Go.RowKit
set_option linter.unusedVariables false
set_option linter.unusedSimpArgs false
structure Lp (σ:Type):Type 1 where
 make ::
 keep:List Nat
 n:Nat
 all:(σ→Prop)→Prop
 hall:∀P, all P→∀s, P s
 mk:σ→St
 inv:σ→Prop
 m:σ→Nat
abbrev lS {α:Type} (keep:List Nat) (n:Nat) (mk:α→St) (inv:α→Prop) (m:α→Nat):Lp α:=⟨keep, n, fun P=>∀a, P a, fun _ h=>h, mk, inv, m⟩
abbrev vI {α β:Type} (keep:List Nat) (n:Nat) (mk:α→β→St) (inv:α→β→Prop) (m:α→β→Nat):Lp (α×β) :=
 ⟨keep, n, fun P=>∀a b, P (a, b), fun _ h ⟨a, b⟩=>h a b, fun | (a, b)=>mk a b, fun | (a, b)=>inv a b, fun | (a, b)=>m a b⟩
abbrev Jn {α β γ:Type} (keep:List Nat) (n:Nat) (mk:α→β→γ→St) (inv:α→β→γ→Prop) (m:α→β→γ→Nat):Lp (α×β×γ) :=
 ⟨keep, n, fun P=>∀a b c, P (a, b, c), fun _ h ⟨a, b, c⟩=>h a b c, fun | (a, b, c)=>mk a b c, fun | (a, b, c)=>inv a b c, fun | (a, b, c)=>m a b c⟩
abbrev OB {α β γ δ:Type} (keep:List Nat) (n:Nat) (mk:α→β→γ→δ→St) (inv:α→β→γ→δ→Prop) (m:α→β→γ→δ→Nat):Lp (α×β×γ×δ) :=
 ⟨keep, n, fun P=>∀a b c d, P (a, b, c, d), fun _ h ⟨a, b, c, d⟩=>h a b c d, fun | (a, b, c, d)=>mk a b c d, fun | (a, b, c, d)=>inv a b c d, fun | (a, b, c, d)=>m a b c d⟩
abbrev OC {α β γ δ ε:Type} (keep:List Nat) (n:Nat) (mk:α→β→γ→δ→ε→St) (inv:α→β→γ→δ→ε→Prop) (m:α→β→γ→δ→ε→Nat):Lp (α×β×γ×δ×ε) :=
 ⟨keep, n, fun P=>∀a b c d e, P (a, b, c, d, e), fun _ h ⟨a, b, c, d, e⟩=>h a b c d e, fun | (a, b, c, d, e)=>mk a b c d e, fun | (a, b, c, d, e)=>inv a b c d e, fun | (a, b, c, d, e)=>m a b c d e⟩
def Lp.ag {σ:Type} (L:Lp σ) (s:σ) (st:St):Prop:=∃s', st=L.mk s'∧L.inv s'∧L.m s'<L.m s
def Lp.at {σ:Type} (L:Lp σ) (st:St):Prop:=∃s', st=L.mk s'∧L.inv s'
inductive bn:Type 1
 | e
 | w (id:Nat) (o:List (Nat×Ov)) (h:bn)
 | q (id:Nat) (keep:List Nat) (n:Nat) (h:bn)
 | f (id b:Nat) (h:bn)
 | g (id i j E sz:Nat) {α:Type} (enc:α→List V) (d:α) (h:bn)
 | gs (id t E sz:Nat) {α:Type} (enc:α→List V) (d:α) (h:bn)
 | mv (id j i:Nat) (h:bn)
 | s (id:Nat) (P:Prop) (x y:bn)
 | y (id:Nat) (o:List (Nat×Ov)) (tab:vB) (h:bn)
 | c (t:Nat) (P:Prop) [i:Decidable P] (x y:bn)
 | n (t:Nat) (P:Prop) [i:Decidable P] (x y:bn)
 | b (t:Nat) (x y:bn)
 | t (t:Nat) (x:bn)
 | u (t:Nat) (x:bn)
 | l {σ:Type} (L:Lp σ) (s0:σ) (h:σ→bn)
 | r (n:Nat) (h:bn)
 | k (id:Nat) {σ:Type} (L:Lp σ) (x:bn) (h:σ→bn)
 | rg (e:Exit) (st:St) (h:bn)
 | gh (id:Nat) (F:Fs) (h:bn)
def LR (o:Oper):Bool:=match o.op with
 | .store _ _ _=>true
 | .call ⟨.builtin .append, _, _⟩=>true
 | .call ⟨.builtin .copy, _, _⟩=>true
 | _=>false
def LS:Ov→Bool
 | .inl _ _ _=>true
 | .inls _=>true
 | .yld _ _ _=>true
 | _=>false
def LU:Ov→Bool
 | .app _ _ _ _ _ _=>true
 | _=>false
def LV:Ov→Bool
 | .val .junk=>true
 | _=>false
def uO (ovs:List (Nat×Ov)):List Nat→Nat→List Oper→Nat
 | _, _, []=>0
 | rd, i, o::r=>if (LR o&&!(LU (oL ovs i)||LV (oL ovs i)))||LS (oL ovs i)||(match o.dst with | some t=>rd.any (fun s=>Nat.beq t s) | none=>false)then 0 else uO ovs (Fe o.op++rd) (i+1) r+1
def H5 (P:Program) (nt:Nat) (ops:List Oper) (ovs:List (Nat×Ov)) (tab:vB) (st:St) (k:St→Prop):Prop :=
 match P.follows .mixedOrders&&ops.all (fun o=>!cI o), e7 tab (List.replicate ops.length false), e7 tab (List.replicate ops.length true)with
 | true, some st0, some st1=>uC st st0=st0∧DX P nt ops ovs tab tab∧nS st1 k
 | _, _, _=>False
def wz (id:Nat):bn→St→(List (Nat×Ov)→Option vB→bn→St→Prop)→Prop
 | .w i o h, st, k=>match Nat.beq i id with
  | true=>k o none h st
  | false=>k [] none (.w i o h) st
 | .y i o t h, st, k=>match Nat.beq i id with
  | true=>k o (some t) h st
  | false=>k [] none (.y i o t h) st
 | .q i kp n h, st, k=>match Nat.beq i id with
  | true=>nS (keepS kp n st) (fun st'=>wz id h st' k)
  | false=>k [] none (.q i kp n h) st
 | .f i b h, st, k=>match Nat.beq i id with
  | true=>match nq b st with
   | some st'=>nS st' (fun st'=>wz id h st' k)
   | none=>False
  | false=>k [] none (.f i b h) st
 | .g i a j E sz enc d h, st, k=>match Nat.beq i id with
  | true=>match AP a j E sz enc d st with
   | some st'=>nS st' (fun st'=>wz id h st' k)
   | none=>False
  | false=>k [] none (.g i a j E sz enc d h) st
 | .gs i t E sz enc d h, st, k=>match Nat.beq i id with
  | true=>match adoptE t E sz enc d st with
   | some st'=>nS st' (fun st'=>wz id h st' k)
   | none=>False
  | false=>k [] none (.gs i t E sz enc d h) st
 | .mv i j a h, st, k=>match Nat.beq i id with
  | true=>match Cj j a st with
   | some st'=>nS st' (fun st'=>wz id h st' k)
   | none=>False
  | false=>k [] none (.mv i j a h) st
 | .gh i F h, st, k=>match Nat.beq i id with
  | true=>(F.F st).2∧nS (F.F st).1 (fun st'=>wz id h st' k)
  | false=>k [] none (.gh i F h) st
 | .s i P x y, st, k=>match Nat.beq i id with
  | true=>(P→wz id x st k)∧(¬P→wz id y st k)
  | false=>k [] none (.s i P x y) st
 | h, st, k=>k [] none h st
def LW:Operand→Nat
 | .tmp t=>t+1
 | _=>0
def uP (t:Nat) (b:Bool) (X Y:bn→Prop):bn→Prop
 | @bn.c t' P i x y=>match Nat.beq (t'+1) t with
  | true=>b=@decide P i∧(P→X x)∧(¬P→Y y)
  | false=>match b with | true=>X (@bn.c t' P i x y) | false=>Y (@bn.c t' P i x y)
 | @bn.n t' P i x y=>match Nat.beq (t'+1) t with
  | true=>b=(!@decide P i)∧(¬P→X x)∧(P→Y y)
  | false=>match b with | true=>X (@bn.n t' P i x y) | false=>Y (@bn.n t' P i x y)
 | .b t' x y=>match Nat.beq (t'+1) t with
  | true=>(b=true→X x)∧(b=false→Y y)
  | false=>match b with | true=>X (.b t' x y) | false=>Y (.b t' x y)
 | .t t' x=>match Nat.beq (t'+1) t with
  | true=>b=true∧X x
  | false=>match b with | true=>X (.t t' x) | false=>Y (.t t' x)
 | .u t' x=>match Nat.beq (t'+1) t with
  | true=>b=false∧Y x
  | false=>match b with | true=>X (.u t' x) | false=>Y (.u t' x)
 | h=>match b with | true=>X h | false=>Y h
def FC:Code→Option Nat
 | .region id _ _=>some id
 | .seq a _=>FC a
 | .block _ a=>FC a
 | .loop a=>FC a
 | .cond _ a _=>FC a
 | _=>none
def LX (x:Code):bn→Bool
 | .k id _ _ _=>match FC x with | some i=>Nat.beq i id | none=>false
 | _=>false
@[reducible] def kSeq (n:bn→St→Prop) (K:bn→Exit→St→Prop) (h:bn) (e:Exit) (st:St):Prop:=match e with
 | .normal=>n h st
 | e=>K h e st
@[reducible] def kBlock (id:Nat) (K:bn→Exit→St→Prop) (h:bn) (e:Exit) (st:St):Prop:=match e with
 | .exit i=>match Nat.beq i id with | true=>K h .normal st | false=>K h (.exit i) st
 | e=>K h e st
def H6 (body:(bn→Exit→St→Prop)→bn→St→Prop) (K:bn→Exit→St→Prop):Nat→bn→St→Prop
 | 0, _, _=>False
 | n+1, h, st=>body (fun h' e st'=>match e with | .normal=>H6 body K n h' st' | e=>K h' e st') h st
def qC (P:Program) (nt:Nat) (c:Code) (st:St) (e:Exit) (st':St):Prop:=∀C:lC, C.P=P→C.nt=nt→C.rd=none→Ev C c (fun e1 st1=>e1=e∧st1=st') st
def H7:Code→Bool
 | .seq a b=>H7 a&&H7 b
 | .cond _ a b=>H7 a&&H7 b
 | .block _ a=>H7 a
 | .loop a=>H7 a
 | .rangeFunc _ _ _ _=>false
 | _=>true
def vc (P:Program) (nt:Nat):Code→(bn→Exit→St→Prop)→bn→St→Prop
 | .skip, K, h, st=>K h .normal st
 | .label _, K, h, st=>K h .normal st
 | .exit i, K, h, st=>K h (.exit i) st
 | .ret, K, h, st=>K h .ret st
 | .seq x y, K, h, st=>match LX x h with
  | false=>vc P nt x (kSeq (vc P nt y K) K) h st
  | true=>match h with
   | .k _ L hx hy=>vc P nt x (fun h' e st'=>match e with | .normal=>L.at (keepS L.keep L.n st') | e=>K h' e st') hx st∧L.all (fun s=>L.inv s→vc P nt y K (hy s) (L.mk s))
   | _=>False
 | .block i c, K, h, st=>vc P nt c (kBlock i K) h st
 | .cond c x y, K, h, st=>match eB st.env c with
  | .v (.bool b)=>uP (LW c) b (fun h=>vc P nt x K h st) (fun h=>vc P nt y K h st) h
  | _=>False
 | .loop c, K, h, st=>match h with
  | .l L s0 hb=>keepS L.keep L.n st=L.mk s0∧L.inv s0∧L.all (fun s=>L.inv s→vc P nt c (fun h' e st'=>match e with | .normal=>L.ag s (keepS L.keep L.n st') | e=>K h' e st') (hb s) (L.mk s))
  | .r n h=>H6 (fun K=>vc P nt c K) K n h st
  | _=>False
 | .region id ops draw, K, h, st=>wz id h st fun o t h st=>match t with
  | some tab=>match draw with
   | true=>match e7 tab (List.replicate ops.toList.length false)with
    | some _=>H5 P nt ops.toList o tab st (fun st=>K h .normal st)
    | none=>zm P nt ops.toList o (uO o [] 0 ops.toList) tab st (fun st=>K h .normal st)
   | false=>False
  | none=>match draw with
   | false=>xH P nt ops.toList o 0 ops.toList st (fun st=>nS st (fun st=>K h .normal st))
   | true=>J0 P nt ops.toList o (uO o [] 0 ops.toList) st (fun st=>nS st (fun st=>K h .normal st))
 | .rangeFunc g ps asg bd, K, h, st=>match h with
  | .rg e st' h'=>qC P nt (.rangeFunc g ps asg bd) st e st'∧K h' e st'
  | _=>False
 | _, _, _, _=>False
section
variable {C:lC} {Q:Exit→St→Prop}
theorem Ev.regA {st st':St} {id:Nat} {ops:List Oper} (ovs:List (Nat×Ov)) {p:Prop} (h:c5 C.P C.nt ops ovs 0 ops st=(st', p)) (hp:p) (hq:Q .normal st'):Ev C (.region id ops.toArray false) Q st:=fun a w S μ hR =>
 wpIn_region_lit (qx ops 0 st S μ a w p hR h hp (fun S' μ' a' w' hR'=>⟨_, S', μ', hq, hR'⟩))
theorem Ev.gh {c:Code} {st st':St} (h:Gh st st') (he:Ev C c Q st'):Ev C c Q st:=fun a w S μ hR=>by
 obtain⟨S', μ', h'⟩:=h C S μ a w hR
 exact he a w S' μ' h'
theorem J8 {id:Nat} {c:Code} {k:List (Nat×Ov)→Option vB→bn→St→Prop} (hk:∀o t h st, k o t h st→Ev C c Q st):∀(h:bn) (st:St), wz id h st k→Ev C c Q st:=by
 intro h
 induction h with
 | w i o h ih=>intro st hp;unfold wz at hp;split at hp<;>exact hk _ _ _ _ hp
 | y i o t h ih=>intro st hp;unfold wz at hp;split at hp<;>exact hk _ _ _ _ hp
 | q i kp n h ih =>
  intro st hp;unfold wz at hp;split at hp
  ·rw[mh]at hp;exact Ev.keep kp n rfl (ih _ hp)
  ·exact hk _ _ _ _ hp
 | f i b h ih =>
  intro st hp;unfold wz at hp;split at hp
  ·split at hp
   ·rename_i st' hf;rw[mh]at hp;exact Ev.freeze b hf (ih _ hp)
   ·exact hp.elim
  ·exact hk _ _ _ _ hp
 | g i a j E sz enc d h ih =>
  intro st hp;unfold wz at hp;split at hp
  ·split at hp
   ·rename_i st' hf;rw[mh]at hp;exact Ev.adopt a j E sz enc d hf (ih _ hp)
   ·exact hp.elim
  ·exact hk _ _ _ _ hp
 | gs i t E sz enc d h ih =>
  intro st hp;unfold wz at hp;split at hp
  ·split at hp
   ·rename_i st' hf;rw[mh]at hp;exact Ev.adoptE t E sz enc d hf (ih _ hp)
   ·exact hp.elim
  ·exact hk _ _ _ _ hp
 | mv i j a h ih =>
  intro st hp;unfold wz at hp;split at hp
  ·split at hp
   ·rename_i st' hf;rw[mh]at hp;exact Ev.move j a hf (ih _ hp)
   ·exact hp.elim
  ·exact hk _ _ _ _ hp
 | gh i F h ih =>
  intro st hp;unfold wz at hp;split at hp
  ·rw[mh]at hp;exact Ev.gh (F.ok st hp.1) (ih _ hp.2)
  ·exact hk _ _ _ _ hp
 | s i P x y ih1 ih2 =>
  intro st hp;unfold wz at hp;split at hp
  ·by_cases hP:P
   ·exact ih1 _ (hp.1 hP)
   ·exact ih2 _ (hp.2 hP)
  ·exact hk _ _ _ _ hp
 | _=>intro st hp;unfold wz at hp;exact hk _ _ _ _ hp
theorem ip {b:Bool} {X Y:bn→Prop} (h:bn) (hh:match b with | true=>X h | false=>Y h):(b=true→∃h', X h')∧(b=false→∃h', Y h'):=by
 cases b
 ·exact⟨fun h=>(by cases h), fun _=>⟨_, hh⟩⟩
 ·exact⟨fun _=>⟨_, hh⟩, fun h=>(by cases h)⟩
theorem FD {t:Nat} {b:Bool} {X Y:bn→Prop} {h:bn} (hc:uP t b X Y h):(b=true→∃h', X h')∧(b=false→∃h', Y h'):=by
 cases h with
 | c t' P x y =>
  simp only[uP]at hc;split at hc
  ·obtain⟨h1, h2, h3⟩:=hc
   subst h1
   exact⟨fun h=>⟨_, h2 (of_decide_eq_true h)⟩, fun h=>⟨_, h3 (of_decide_eq_false h)⟩⟩
  ·exact ip _ hc
 | n t' P x y =>
  simp only[uP]at hc;split at hc
  ·obtain⟨h1, h2, h3⟩:=hc
   subst h1
   exact⟨fun h=>⟨_, h2 (by simpa using h)⟩, fun h=>⟨_, h3 (by simpa using h)⟩⟩
  ·exact ip _ hc
 | b t' x y =>
  simp only[uP]at hc;split at hc
  ·exact⟨fun h=>⟨_, hc.1 h⟩, fun h=>⟨_, hc.2 h⟩⟩
  ·exact ip _ hc
 | t t' x =>
  simp only[uP]at hc;split at hc
  ·exact⟨fun h=>⟨_, hc.2⟩, fun h=>(by rw[hc.1]at h;cases h)⟩
  ·exact ip _ hc
 | u t' x =>
  simp only[uP]at hc;split at hc
  ·exact⟨fun h=>(by rw[hc.1]at h;cases h), fun h=>⟨_, hc.2⟩⟩
  ·exact ip _ hc
 | _=>exact ip _ hc
theorem D2 {id:Nat} {ops:Array Oper} {draw:Bool} {h:bn} {st:St} {K:bn→Exit→St→Prop} (hv:vc C.P C.nt (.region id ops draw) K h st) (hK:∀h st, K h .normal st→Q .normal st):Ev C (.region id ops draw) Q st:=by
 unfold vc at hv
 refine J8 ?_ h st hv
 intro o t h st hq
 have ha:ops=ops.toList.toArray:=by simp
 cases t with
 | some tab =>
  cases draw with
  | false=>exact hq.elim
  | true =>
   replace hq:(match e7 tab (List.replicate ops.toList.length false)with
    | some _=>H5 C.P C.nt ops.toList o tab st (fun st=>K h .normal st)
    | none=>zm C.P C.nt ops.toList o (uO o [] 0 ops.toList) tab st (fun st=>K h .normal st)):=hq
   cases h00:e7 tab (List.replicate ops.toList.length false)with
   | none =>
    rw[h00]at hq
    have hq:zm C.P C.nt ops.toList o (uO o [] 0 ops.toList) tab st (fun st=>K h .normal st):=hq
    rw[ha]
    exact Ev.dwT (Q:=Q) o _ tab (D0 hq (fun st' hk=>hK _ _ hk))
   | some st00 =>
   rw[h00]at hq
   replace hq:H5 C.P C.nt ops.toList o tab st (fun st=>K h .normal st):=hq
   unfold H5 at hq
   cases hb:C.P.follows .mixedOrders&&ops.toList.all (fun o=>!cI o)with
   | false=>rw[hb]at hq;exact hq.elim
   | true =>
   cases h0:e7 tab (List.replicate ops.toList.length false)with
   | none=>rw[hb, h0]at hq;exact hq.elim
   | some st0 =>
   cases h1:e7 tab (List.replicate ops.toList.length true)with
   | none=>rw[hb, h0, h1]at hq;exact hq.elim
   | some st1 =>
   rw[hb, h0, h1]at hq
   simp only[Bool.and_eq_true]at hb
   obtain⟨q1, q2, q3⟩:=hq
   rw[mh]at q3
   rw[ha]
   exact Ev.any (st':=st1) o tab hb.1 hb.2 h0 q1 h1 rfl q2 (hK _ _ q3)
 | none =>
  cases draw with
  | false =>
   obtain⟨h1, h2⟩:=tC _ _ _ _ hq
   rw[mh]at h2
   rw[ha]
   exact Ev.regA o rfl h1 (hK _ _ h2)
  | true =>
   rw[ha]
   refine Ev.dw o (uO o [] 0 ops.toList) ?_
   have hq':J0 C.P C.nt ops.toList o (uO o [] 0 ops.toList) st (fun st=>nS st (fun st=>K h .normal st)):=by simpa using hq
   exact Fo hq' (fun st1 h1=>hK _ _ (by rwa [mh]at h1))
theorem uQ {c:Code} (ih:∀(K:bn→Exit→St→Prop) (h:bn) (st:St), vc C.P C.nt c K h st→Ev C c (fun e st=>∃h', K h' e st) st) (K:bn→Exit→St→Prop):∀(n:Nat) (h:bn) (st:St) (S:Nat→Prop) (μ:Nat→Value) (a:Act) (w:World), aX C S μ st a w →
  H6 (fun K=>vc C.P C.nt c K) K n h st→Code.roundsIn (nh C.rd) 0 C.P c (fun e a' w'=>∃st' S' μ', (∃h', K h' e st')∧aX C S' μ' st' a' w') n a w
 | 0, h, st, S, μ, a, w, hR, hv=>hv.elim
 | n+1, h, st, S, μ, a, w, hR, hv=>by
  rw[roundsIn_succ]
  refine wpIn_mono (ih _ _ _ hv a w S μ hR) ?_
  rintro e a' w' ⟨st', S', μ', ⟨h', hq⟩, hR'⟩
  cases e with
  | normal=>exact uQ ih K n h' st' S' μ' a' w' hR' hq
  | exit i=>exact⟨st', S', μ', ⟨h', hq⟩, hR'⟩
  | goto l=>exact⟨st', S', μ', ⟨h', hq⟩, hR'⟩
  | ret=>exact⟨st', S', μ', ⟨h', hq⟩, hR'⟩
  | panic ch=>exact⟨st', S', μ', ⟨h', hq⟩, hR'⟩
  | outgrown=>exact⟨st', S', μ', ⟨h', hq⟩, hR'⟩
theorem D3 {c:Code} (ih:∀(K:bn→Exit→St→Prop) (h:bn) (st:St), vc C.P C.nt c K h st→Ev C c (fun e st=>∃h', K h' e st) st) (K:bn→Exit→St→Prop) (n:Nat) (h:bn) (st:St) (hv:H6 (fun K=>vc C.P C.nt c K) K n h st):Ev C (.loop c) (fun e st=>∃h', K h' e st) st :=
 fun a w S μ hR=>wpIn_loop_rounds n (uQ ih K n h st S μ a w hR hv)
theorem LZ {p:Prop} {a b:Bool} (h:p∨(a&&b)=true):p∨a=true:=h.imp_right fun h=>by rw[Bool.and_eq_true]at h;exact h.1
theorem L0 {p:Prop} {a b:Bool} (h:p∨(a&&b)=true):p∨b=true:=h.imp_right fun h=>by rw[Bool.and_eq_true]at h;exact h.2
theorem r7:∀(c:Code), (C.rd=none∨H7 c=true)→∀(K:bn→Exit→St→Prop) (h:bn) (st:St), vc C.P C.nt c K h st→Ev C c (fun e st=>∃h', K h' e st) st:=by
 intro c
 induction c with
 | skip=>intro _ K h st hv;exact Ev.skip ⟨h, hv⟩
 | label l=>intro _ K h st hv;exact Ev.label ⟨h, hv⟩
 | exit i=>intro _ K h st hv;exact Ev.exit ⟨h, hv⟩
 | ret=>intro _ K h st hv;exact Ev.ret ⟨h, hv⟩
 | region id ops draw=>intro _ K h st hv;exact D2 hv (fun h st hk=>⟨h, hk⟩)
 | seq x y ihx ihy =>
  intro hr K h st hv
  have ihx:=ihx (LZ hr)
  have ihy:=ihy (L0 hr)
  unfold vc at hv
  split at hv
  ·refine Ev.seq ((ihx _ _ _ hv).mono ?_)
   rintro e st' ⟨h', hq⟩
   cases e with
   | normal=>exact ihy _ _ _ hq
   | exit i=>exact⟨h', hq⟩
   | goto l=>exact⟨h', hq⟩
   | ret=>exact⟨h', hq⟩
   | panic ch=>exact⟨h', hq⟩
   | outgrown=>exact⟨h', hq⟩
  ·cases h with
   | k id L hx hy =>
    obtain⟨h1, h2⟩:=hv
    refine Ev.cut L.keep L.n L.mk L.inv ((ihx _ _ _ h1).mono ?_) (fun s hs=>ihy _ _ _ (L.hall _ h2 s hs))
    rintro e st' ⟨h', hq⟩
    cases e with
    | normal=>exact hq
    | exit i=>exact⟨h', hq⟩
    | goto l=>exact⟨h', hq⟩
    | ret=>exact⟨h', hq⟩
    | panic ch=>exact⟨h', hq⟩
    | outgrown=>exact⟨h', hq⟩
   | _=>exact hv.elim
 | cond c x y ihx ihy =>
  intro hr K h st hv
  have ihx:=ihx (LZ hr)
  have ihy:=ihy (L0 hr)
  unfold vc at hv
  split at hv
  ·rename_i b hb
   obtain⟨h1, h2⟩:=FD hv
   exact Ev.cond b hb (fun hb=>by obtain⟨h', q⟩:=h1 hb;exact ihx _ _ _ q) (fun hb=>by obtain⟨h', q⟩:=h2 hb;exact ihy _ _ _ q)
  ·exact hv.elim
 | block i c ih =>
  intro hr K h st hv
  have ih:=ih hr
  unfold vc at hv
  refine Ev.block ((ih _ _ _ hv).mono ?_)
  rintro e st' ⟨h', hq⟩
  cases e with
  | exit j =>
   show(if Nat.beq j i=true then _ else _)
   change (match Nat.beq j i with | true=>K h' .normal st' | false=>K h' (.exit j) st')at hq
   by_cases hj:Nat.beq j i=true
   ·rw[hj]at hq;rw[if_pos hj];exact⟨h', hq⟩
   ·rw[if_neg hj]
    simp only[Bool.not_eq_true]at hj
    rw[hj]at hq
    exact⟨h', hq⟩
  | normal=>exact⟨h', hq⟩
  | goto l=>exact⟨h', hq⟩
  | ret=>exact⟨h', hq⟩
  | panic ch=>exact⟨h', hq⟩
  | outgrown=>exact⟨h', hq⟩
 | loop c ih =>
  intro hr K h st hv
  have ih:=ih hr
  unfold vc at hv
  split at hv
  ·rename_i σ L s0 hb
   obtain⟨h1, h2, h3⟩:=hv
   refine Ev.loop L.keep L.n L.mk L.inv L.m s0 h1 h2 ?_
   intro s hs
   refine(ih _ _ _ (L.hall _ h3 s hs)).mono ?_
   rintro e st' ⟨h', hq⟩
   cases e with
   | normal=>exact hq
   | exit i=>exact⟨h', hq⟩
   | goto l=>exact⟨h', hq⟩
   | ret=>exact⟨h', hq⟩
   | panic ch=>exact⟨h', hq⟩
   | outgrown=>exact⟨h', hq⟩
  ·exact D3 ih K _ _ _ hv
  ·exact hv.elim
 | rangeFunc g ps asg bd =>
  intro hr K h st hv
  unfold vc at hv
  split at hv
  ·rcases hr with hr | hr
   ·exact(hv.1 C rfl rfl hr).mono (fun e1 st1 hq=>by obtain⟨rfl, rfl⟩:=hq;exact⟨_, hv.2⟩)
   ·cases hr
  ·exact hv.elim
 | _=>intro _ K h st hv;exact(by unfold vc at hv;exact hv.elim)
theorem qD (hr:C.rd=none) (c:Code):∀(K:bn→Exit→St→Prop) (h:bn) (st:St), vc C.P C.nt c K h st→Ev C c (fun e st=>∃h', K h' e st) st:=r7 c (.inl hr)
end
def te (P:Program) (st:St):List ResultVar→(List D→Prop)→Prop
 | [], k=>k []
 | r::rs, k=>match DQ P st r with
  | (d, p)=>p∧te P st rs (fun ds=>k (d::ds))
theorem tF {P:Program} {st:St}:∀(rs:List ResultVar) (k:List D→Prop), te P st rs k→(resL P st rs).2∧k (resL P st rs).1
 | [], k, h=>⟨trivial, h⟩
 | r::rs, k, h=>by
  unfold te at h
  unfold resL
  generalize hq:DQ P st r=q at h
  obtain⟨d, p⟩:=q
  obtain⟨h1, h2⟩:=h
  obtain⟨h3, h4⟩:=tF rs _ h2
  exact⟨⟨h1, h3⟩, h4⟩
def L1 (H:List aq):D→D→Prop
 | .tup xs, .tup ys=>LD H xs ys
 | x, y=>Jh H x y
def M2:D→D→Prop
 | .tup xs, .tup ys=>M0 xs ys
 | x, y=>JR x y
def FE:List D→D
 | [d]=>d
 | ds=>.tup ds
def J9 (al:Bool) (H:List aq) (x r:D):Prop:=match al with
 | true=>L1 H x r
 | false=>L1 H x r∧M2 x r
def L2 (P:Program) (fn:Func) (al:Bool) (r:D) (_:bn) (e:Exit) (st:St):Prop:=match e with
 | .normal=>te P st fn.results.toList (fun ds=>J9 al st.heap (FE ds) r)
 | .ret=>te P st fn.results.toList (fun ds=>J9 al st.heap (FE ds) r)
 | _=>False
theorem xM {P:Program} {st:St} {rs:List ResultVar}:DR P rs st=(FE (resL P st rs).1, (resL P st rs).2):=by
 unfold DR
 generalize resL P st rs=q
 obtain⟨ds, p⟩:=q
 match ds with
 | []=>rfl
 | [d]=>rfl
 | d::e::r=>rfl
theorem CA {al:Bool} {H:List aq} {x r:D} (h1:L1 H x r) (h2:al=true∨M2 x r):y9 al H x r:=by
 unfold y9
 split
 ·exact⟨h1, h2⟩
 ·rename_i hne
  have e1:L1 H x r=Jh H x r:=by
   unfold L1;split
   ·exact(hne _ _ rfl rfl).elim
   ·rfl
  have e2:M2 x r=JR x r:=by
   unfold M2;split
   ·exact(hne _ _ rfl rfl).elim
   ·rfl
  rw[e1]at h1;rw[e2]at h2
  exact⟨h1, h2⟩
theorem H8 {P:Program} {fn:Func} {al:Bool} {r:D} {h:bn} {e:Exit} {st:St} (hk:L2 P fn al r h e st):LK P fn al r e st:=by
 have key:te P st fn.results.toList (fun ds=>J9 al st.heap (FE ds) r)→gC P fn st∧y9 al st.heap (hJ P fn st) r:=by
  intro hq
  obtain⟨h1, h2⟩:=tF _ _ hq
  unfold gC hJ
  rw[xM]
  refine⟨h1, ?_⟩
  cases al
  ·exact CA h2.1 (.inr h2.2)
  ·exact CA h2 (.inl rfl)
 cases e with
 | normal=>exact key hk
 | ret=>exact key hk
 | exit i=>exact hk.elim
 | goto l=>exact hk.elim
 | panic ch=>exact hk.elim
 | outgrown=>exact hk.elim
theorem ai.vc {P:Program} {f:FuncId} {fn:Func} {c:Code} {as:List D} {al:Bool} {r:D} {V:Prop} (hint:bn) (hf:P.funcs[f]?=some fn) (hb:fn.body=some c) (hn:Nat.ble as.length fn.ntmps=true) (hr:er r=true)
  (hv:Proofs.YtckgpflobhpnpaaGreat.vc P fn.ntmps c (L2 P fn al r) hint ⟨iC 0 as, []⟩=V) (pf:V):ai P f as [] al r []:=by
 refine ai.of_ev hf hb hn hr ?_
 intro C h1 h2 hrd_
 subst h1
 rw[← hv, ← h2]at pf
 exact(qD hrd_ c _ hint _ pf).mono (fun e st' ⟨h', hk⟩=>H8 hk)
def L3 (P:Program) (fn:Func) (r:D) (H:List aq) (_:bn) (e:Exit) (st:St):Prop:=match e with
 | .normal=>te P st fn.results.toList (fun ds=>ql (FE ds) r∧st.heap.take H.length=H)
 | .ret=>te P st fn.results.toList (fun ds=>ql (FE ds) r∧st.heap.take H.length=H)
 | _=>False
theorem H9 {P:Program} {fn:Func} {r:D} {H:List aq} {h:bn} {e:Exit} {st:St} (hk:L3 P fn r H h e st):LJ P fn r H e st:=by
 have key:te P st fn.results.toList (fun ds=>ql (FE ds) r∧st.heap.take H.length=H)→gC P fn st∧ql (hJ P fn st) r∧st.heap.take H.length=H:=by
  intro hq
  obtain⟨h1, h2⟩:=tF _ _ hq
  unfold gC hJ
  rw[xM]
  exact⟨h1, h2⟩
 cases e with
 | normal=>exact key hk
 | ret=>exact key hk
 | exit i=>exact hk.elim
 | goto l=>exact hk.elim
 | panic ch=>exact hk.elim
 | outgrown=>exact hk.elim
theorem fV.vc {P:Program} {f:FuncId} {fn:Func} {c:Code} {ds:List D} {H H':List aq} {r:D} {V:Prop} (hint:bn) (hf:P.funcs[f]?=some fn) (hb:fn.body=some c) (hn:Nat.ble ds.length fn.ntmps=true)
  (hv:Proofs.YtckgpflobhpnpaaGreat.vc P fn.ntmps c (L3 P fn r H') hint ⟨iC 0 ds, H⟩=V) (pf:V):fV P f ds H r H':=by
 refine⟨fn, c, hf, hb, hn, ?_⟩
 intro C h1 h2 hrd_
 subst h1
 rw[← hv, ← h2]at pf
 exact(qD hrd_ c _ hint _ pf).mono (fun e st' ⟨h', hk⟩=>H9 hk)
def mi (k:Nat):Code→Option Code
 | .rangeFunc g ps a b=>match Nat.beq (ps.toList.headD 0) k with
  | true=>some (.rangeFunc g ps a b)
  | false=>mi k b
 | .seq a b=>match mi k a with
  | some c=>some c
  | none=>mi k b
 | .cond _ a b=>match mi k a with
  | some c=>some c
  | none=>mi k b
 | .block _ a=>mi k a
 | .loop a=>mi k a
 | _=>none
def OD (P:Program) (f:FuncId) (k:Nat):Code:=match P.funcs[f]? with
 | some fn=>match fn.body with
  | some c=>match mi k c with
   | some r=>r
   | none=>.skip
  | none=>.skip
 | none=>.skip
def OE:Code→Operand
 | .rangeFunc g _ _ _=>g
 | _=>.tmp 0
def Nd:Code→List Nat
 | .rangeFunc _ ps _ _=>ps.toList
 | _=>[]
def OG:Code→Code
 | .rangeFunc _ _ a _=>a
 | c=>c
def OH:Code→Code
 | .rangeFunc _ _ _ b=>b
 | c=>c
def Nf:Code→Bool
 | .rangeFunc _ _ _ _=>true
 | _=>false
def CE (P:Program) (nt:Nat) (code:Code) (st:St) (id l ntL:Nat) (tm:Array Value) (e0:Exit) (st0:St):Prop:=∀C1:lC, C1.P=P→C1.nt=nt→C1.rd=none→Ev C1 code (AO id l ntL tm (fun e s=>e=e0∧s=st0)) st
theorem qC.vc {P:Program} {nt:Nat} {c:Code} {st st0:St} {e0:Exit} {gid:FuncId} {first cap:List D} {fn:Func} {code:Code} (hc:Nf c=true) (hg:eB st.env (OE c)=.fn (.func gid) first cap) (hf:P.funcs[gid]?=some fn) (hb:fn.body=some code)
  (hgo:hC P gid=true) (hn:Nat.ble (first.length+1+cap.length) fn.ntmps=true) (hres:fn.results.toList=[]) (hfe:bN st.heap.length st.env=true) (hfh:bx st.heap.length st.heap=true)
  (h:∀(l:Nat) (tm:Array Value) (asg bd:Code), asg=OG c→bd=OH c→CE P fn.ntmps code ⟨iC 0 (first++[.yld st.heap.length]++cap), st.heap++[.loop l tm nt st.env (Nd c) asg bd .ready none]⟩ st.heap.length l nt tm e0 st0):qC P nt c st e0 st0:=by
 intro C h1 h2 h3
 subst h1
 subst h2
 cases c with
 | rangeFunc g ps a b =>
  have hk:=Ev.range (C:=C) (ps:=ps.toList) (assign:=a) (body:=b) (Q:=fun e s=>e=e0∧s=st0) h3 hg hf hb hgo hn hres hfe hfh (fun C1 l tm asg bd q1 q2 q3 q4 q5=>h l tm asg bd q1 q2 C1 q3 q4 q5)
  rwa [Array.toArray_toList]at hk
 | _=>cases hc
def tG (id l nt:Nat) (tm:Array Value) (e0:Exit) (st0 st:St):Prop:=match st.heap[id]? with
 | some (.loop l' tm' nt' env _ _ _ s p)=>match AN s with
  | true=>False
  | false=>match Fc p with
   | some e'=>(l'=l∧tm'=tm∧nt'=nt)∧e'=e0∧(⟨env, st.heap.set id .dead⟩:St)=st0
   | none=>False
 | _=>False
def FF (id l nt:Nat) (tm:Array Value) (e0:Exit) (st0:St) (_:bn) (e:Exit) (st:St):Prop:=match e with
 | .normal=>tG id l nt tm e0 st0 st
 | .ret=>tG id l nt tm e0 st0 st
 | _=>False
theorem D4 {id l nt:Nat} {tm:Array Value} {e0:Exit} {st0:St} {h:bn} {e:Exit} {st:St} (hk:FF id l nt tm e0 st0 h e st):AO id l nt tm (fun e s=>e=e0∧s=st0) e st:=by
 have key:tG id l nt tm e0 st0 st→match st.heap[id]? with
  | some (.loop l' tm' nt' env _ _ _ s p)=>l'=l∧tm'=tm∧nt'=nt∧AN s=false∧match Fc p with
   | some e'=>e'=e0∧(⟨env, st.heap.set id .dead⟩:St)=st0
   | none=>False
  | _=>False:=by
  intro hq
  unfold tG at hq
  split at hq
  ·rename_i l' tm' nt' env a1 a2 a3 s p hb
   split at hq
   ·exact hq.elim
   ·rename_i hs
    split at hq
    ·rename_i e' hp
     obtain⟨⟨q1, q2, q3⟩, q4⟩:=hq
     exact⟨q1, q2, q3, hs, q4⟩
    ·exact hq.elim
  ·exact hq.elim
 cases e with
 | normal=>exact⟨.inl rfl, key hk⟩
 | ret=>exact⟨.inr rfl, key hk⟩
 | _=>exact hk.elim
theorem CE.vc {P:Program} {nt:Nat} {code:Code} {st st0:St} {id l ntL:Nat} {tm:Array Value} {e0:Exit} {V:Prop} (hint:bn) (hv:Proofs.YtckgpflobhpnpaaGreat.vc P nt code (FF id l ntL tm e0 st0) hint st=V) (pf:V):CE P nt code st id l ntL tm e0 st0:=by
 intro C h1 h2 h3
 subst h1
 subst h2
 rw[← hv]at pf
 exact(qD h3 code _ hint _ pf).mono (fun e st' ⟨h', hk⟩=>D4 hk)
def xN (id l:Nat) (b:Bool) (H:List aq) (_:bn) (e:Exit) (st:St):Prop:=match st.heap[id]? with
 | some (.loop l' tm nt env ps asg bd _ _)=>match AJ e with
  | some b'=>l'=l∧b'=b∧(st.heap.set id (.loop l' tm nt env ps asg bd (qt e) (tz e))).take H.length=H
  | none=>False
 | _=>False
theorem D5 {id l:Nat} {b:Bool} {H:List aq} {h:bn} {e:Exit} {st:St} (hk:xN id l b H h e st):xC id l b H e st:=by
 unfold xN at hk
 unfold xC
 split at hk
 ·rename_i hq
  split at hk
  ·rename_i ha
   rw[hq]
   exact⟨hk.1, by rw[ha, hk.2.1], hk.2.2⟩
  ·exact hk.elim
 ·exact hk.elim
def Ka (P:Program) (nt:Nat) (bd:Code) (id l:Nat) (b:Bool) (H:List aq) (h:bn) (e:Exit) (st:St):Prop:=match e with
 | .normal=>match st.heap[id]? with
  | some (.loop l' tm n2 env ps asg bd' .ready none)=>l'=l∧vc P nt bd (xN id l b H) h ⟨st.env, st.heap.set id (.loop l' tm n2 env ps asg bd' .busy none)⟩
  | _=>False
 | _=>False
theorem qu.vc {P:Program} {l nt id:Nat} {asg bd A B:Code} {st:St} {b:Bool} {H:List aq} {V:Prop} (hint:bn) (ha:asg=A) (hb:bd=B) (hn:(H7 A&&H7 B)=true) (hv:Proofs.YtckgpflobhpnpaaGreat.vc P nt A (Ka P nt B id l b H) hint st=V) (pf:V):qu P l nt asg bd st id b H:=by
 subst ha
 subst hb
 rw[Bool.and_eq_true]at hn
 intro C h1 h2 h3
 subst h1
 subst h2
 rw[← hv]at pf
 refine(r7 asg (.inr hn.1) _ hint _ pf).mono ?_
 rintro e st' ⟨h', hk⟩
 cases e with
 | normal =>
  change (match st'.heap[id]? with
   | some (.loop l' tm n2 env ps asg bd' .ready none)=>l'=l∧Proofs.YtckgpflobhpnpaaGreat.vc C.P C.nt bd (xN id l b H) h' ⟨st'.env, st'.heap.set id (.loop l' tm n2 env ps asg bd' .busy none)⟩
   | _=>False)at hk
  simp only[AK]
  split at hk
  ·rename_i hq
   rw[hq]
   exact⟨hk.1, (r7 bd (.inr hn.2) _ _ _ hk.2).mono (fun e st' ⟨h', hk⟩=>D5 hk)⟩
  ·exact hk.elim
 | _=>exact hk.elim
def uR:aq→Prop
 | .arr _ _ _ _ l=>l=[]
 | _=>False
def CF:Option aq→aq→Prop
 | some B', B=>B'=B
 | none, _=>False
def Ia (H:List aq) (x r:D) (B:aq):Prop:=match x with
 | .nils=>r=.own 0∧uR B
 | .own i=>r=.own 0∧CF H[i]? B
 | .gr i s=>r=.gr 0 s∧CF H[i]? B
 | x=>∃id, H[id]?=some B∧AR id x r
def Jo (P:Program) (fn:Func) (r:D) (B:aq) (_:bn) (e:Exit) (st:St):Prop:=match e with
 | .normal=>te P st fn.results.toList (fun ds=>Ia st.heap (FE ds) r B)
 | .ret=>te P st fn.results.toList (fun ds=>Ia st.heap (FE ds) r B)
 | _=>False
def FG (P:Program) (fn:Func) (r:D) (B:aq):Exit→St→Prop
 | .normal, st=>gC P fn st∧((∃id, st.heap[id]?=some B∧AR id (hJ P fn st) r)∨(hJ P fn st=.nils∧r=.own 0∧uR B))
 | .ret, st=>gC P fn st∧((∃id, st.heap[id]?=some B∧AR id (hJ P fn st) r)∨(hJ P fn st=.nils∧r=.own 0∧uR B))
 | _, _=>False
theorem FH {P:Program} {fn:Func} {r:D} {B:aq} {h:bn} {e:Exit} {st:St} (hk:Jo P fn r B h e st):FG P fn r B e st:=by
 have key:te P st fn.results.toList (fun ds=>Ia st.heap (FE ds) r B)→gC P fn st∧((∃id, st.heap[id]?=some B∧AR id (hJ P fn st) r)∨(hJ P fn st=.nils∧r=.own 0∧uR B)):=by
  intro hq
  obtain⟨h1, h2⟩:=tF _ _ hq
  unfold gC hJ
  rw[xM]
  refine⟨h1, ?_⟩
  generalize FE (resL P st fn.results.toList).1=x at h2 ⊢
  unfold Ia at h2
  split at h2
  ·exact .inr ⟨rfl, h2⟩
  ·rename_i i
   obtain⟨rfl, h2⟩:=h2
   unfold CF at h2
   split at h2
   ·rename_i B' hB'
    subst h2
    exact .inl ⟨i, hB', rfl, rfl⟩
   ·exact h2.elim
  ·rename_i i q
   obtain⟨rfl, h2⟩:=h2
   unfold CF at h2
   split at h2
   ·rename_i B' hB'
    subst h2
    exact .inl ⟨i, hB', rfl, rfl, rfl⟩
   ·exact h2.elim
  ·exact .inl h2
 cases e with
 | normal=>exact key hk
 | ret=>exact key hk
 | exit i=>exact hk.elim
 | goto l=>exact hk.elim
 | panic ch=>exact hk.elim
 | outgrown=>exact hk.elim
theorem ai.of_evO' {P:Program} {f:FuncId} {fn:Func} {c:Code} {as:List D} {r:D} {B:aq} (hf:P.funcs[f]?=some fn) (hb:fn.body=some c) (hn:Nat.ble as.length fn.ntmps=true) (hB:B.isOwn=true)
  (h:∀C:lC, C.P=P→C.nt=fn.ntmps→C.rd=none→Ev C c (FG P fn r B) ⟨iC 0 as, []⟩):ai P f as [] false r [B]:=by
 intro S μ w us hS hH hus
 rw[Nat.ble_eq]at hn
 let C:lC:=⟨P, w, S, fn.ntmps, [], none⟩
 have hrel:aX C S μ ⟨iC 0 as, []⟩ (uo us fn.ntmps) w :=
  ⟨rfl, rfl, rfl, Nat.le_refl _, fun _ _=>rfl, fun _ h=>h, fun _ h=>.inl h, hS, tv hus hn, ⟨fun id B hB=>by simp at hB, fun i j A B b hA=>by simp at hA, fun i A b hA=>by simp at hA⟩, fun i A b hA=>by simp at hA, ⟨[], rfl, by simp[C], fun b hb=>by simp[C]at hb⟩, qs hus.1 hn, fun i A b hA=>by simp at hA⟩
 refine(jj (C:=C) hf hb rfl hrel (h C rfl rfl rfl) (fun e st' hq=>?_)).mono ?_
 ·cases e<;>first | exact⟨.inl rfl, hq.1⟩ | exact⟨.inr rfl, hq.1⟩ | exact hq.elim
 rintro e w' ⟨u, e0, st', S', μ', a', rfl, hq, hR, hx⟩
 have hq:(∃id, st'.heap[id]?=some B∧AR id (hJ P fn st') r)∨(hJ P fn st'=.nils∧r=.own 0∧uR B):=by
  cases e0<;>first | exact hq.2 | exact hq.elim
 have hl:B.live=true:=by cases B<;>first | rfl | cases hB
 have one:∀(i:Nat) (A:aq), [B][i]?=some A→i=0∧A=B:=by
  intro i A hA
  match i with
  | 0=>simp at hA;exact⟨rfl, hA.symm⟩
  | i+1=>simp at hA
 rcases hq with ⟨id, hid, hr⟩ | ⟨hn0, rfl, hem⟩
 ·refine⟨u, fun _=>μ' id, S', rfl, hR.os, hR.tape, hR.output, hR.size, fun k hk _=>hR.old k hk, hR.mono, hR.new, hR.slt, Fg hx hr, ⟨?_, ?_, ?_⟩, ?_, fun i A hA=>by simp at hA⟩
  ·intro i A hA
   obtain⟨rfl, rfl⟩:=one i A hA
   refine(hR.heap.box id _ hid).stable (fun _ h _=>h) (fun _ _ _=>rfl) (Nat.le_refl _) (fun j hj=>?_) (fun _ _=>rfl)
   cases A<;>first | (cases hB;done) | cases hj
  ·intro i j A A' b hA hA' _ _ _ _
   rw[(one i A hA).1, (one j A' hA').1]
  ·intro i A b hA la hb
   obtain⟨rfl, rfl⟩:=one i A hA
   exact hR.heap.notS id _ b hid hl hb
  ·intro i A b hA la hb
   obtain⟨rfl, rfl⟩:=one i A hA
   exact .inl (hR.may id _ b hid hl hb)
 ·rw[hn0]at hx
  cases hx
  refine⟨_, fun _=>.slice none 0 0, S', rfl, hR.os, hR.tape, hR.output, hR.size, fun k hk _=>hR.old k hk, hR.mono, hR.new, hR.slt, ak.own (μ:=fun _=>.slice none 0 0) 0, ⟨?_, ?_, ?_⟩, ?_, fun i A hA=>by simp at hA⟩
  ·intro i A hA
   obtain⟨rfl, rfl⟩:=one i A hA
   cases A<;>first | cases hem | skip
   exact⟨fun i x hx=>by simp at hx, [], World.ownsRow_nil w' 0 _ _, fun i x j y hx=>by simp at hx⟩
  ·intro i j A A' b hA hA' _ _ _ _
   rw[(one i A hA).1, (one j A' hA').1]
  ·intro i A b hA la hb
   simp[bE, aG]at hb
  ·intro i A b hA la hb
   simp[bE, aG]at hb
theorem ai.vcO {P:Program} {f:FuncId} {fn:Func} {c:Code} {as:List D} {r:D} {B:aq} {V:Prop} (hint:bn) (hf:P.funcs[f]?=some fn) (hb:fn.body=some c) (hn:Nat.ble as.length fn.ntmps=true) (hB:B.isOwn=true)
  (hv:Proofs.YtckgpflobhpnpaaGreat.vc P fn.ntmps c (Jo P fn r B) hint ⟨iC 0 as, []⟩=V) (pf:V):ai P f as [] false r [B]:=by
 refine ai.of_evO' hf hb hn hB ?_
 intro C h1 h2 hrd_
 subst h1
 rw[← hv, ← h2]at pf
 exact(qD hrd_ c _ hint _ pf).mono (fun e st' ⟨h', hk⟩=>FH hk)
theorem ai.nilcases {P:Program} {f:FuncId} {sz:Nat} {α:Type} {enc:α→List V} {d:α} {l:List α} {as:List D} {al:Bool} {r:D} {H':List aq}
  (h1:l≠[]→ai P f (.v (.sl sz enc d l)::as) [] al r H') (h2:l=[]→ai P f (.nils::as) [] al r H') (h3:l=[]→ai P f (.v .esl::as) [] al r H'):ai P f (.v (.sl sz enc d l)::as) [] al r H':=by
 by_cases hl:l=[]
 ·intro S μ w us hS hH hus
  have hsz:=hus.1
  simp only[List.length_cons]at hsz
  have h0:us[0]?=some us[0]:=Array.getElem?_eq_getElem (by omega)
  have hx:=bg (hus.2 0 _ _ rfl h0)
  have re:∀(x:D), ak S μ w x us[0]→aM S μ w (x::as) us:=fun x hx=>⟨by simp[hsz], fun j y u hy hu=>by
   cases j with
   | zero=>simp at hy;subst hy;rw[h0]at hu;cases hu;exact hx
   | succ j=>exact hus.2 (j+1) y u (by simpa using hy) hu⟩
  obtain⟨p, c, hu, q1, q2, q3, q4⟩:=fe hx
  subst hl
  cases p with
  | none =>
   have:=q3 rfl
   subst this
   exact h2 rfl S μ w us hS hH (re _ (by rw[hu];exact .nils))
  | some p=>exact h3 rfl S μ w us hS hH (re _ (by rw[hu];exact .v _ _ (.esl p c q2)))
 ·exact h1 hl
abbrev vJ (P:Program) (g:FuncId) (ds:List D) (H:List aq) (E:List (Nat×D)) (H' N:List aq) (r:D):Prop:=∀tm:Array Value, fV P g ds (H++[.frame tm E]) r (H'++.frame tm E::N)
def TT:Nat→Prop→Prop
 | 0, p=>p
 | n+1, p=>True∧TT n p
theorem tt:∀{n:Nat} {p:Prop}, p→TT n p
 | 0, _, h=>h
 | n+1, _, h=>⟨trivial, tt h⟩
abbrev CB (b:Bool) (x y:Prop):Prop:=(b=true→x)∧(b=false→y)
abbrev CD (P:Prop) [Decidable P] (x y:Prop):Prop:=CB (decide P) x y
abbrev CN (P:Prop) [Decidable P] (x y:Prop):Prop:=CB (!decide P) x y
abbrev CS (P x y:Prop):Prop:=(P→x)∧(¬P→y)
theorem cd {P:Prop} [Decidable P] {x y:Prop} (h1:P→x) (h2:¬P→y):CD P x y:=⟨fun h=>h1 (of_decide_eq_true h), fun h=>h2 (of_decide_eq_false h)⟩
theorem cn {P:Prop} [Decidable P] {x y:Prop} (h1:¬P→x) (h2:P→y):CN P x y:=⟨fun h=>h1 (by simpa using h), fun h=>h2 (by simpa using h)⟩
abbrev GO {σ:Type} (L:Lp σ) (s0:σ) (body:Prop):Prop:=L.mk s0=L.mk s0∧L.inv s0∧body
abbrev AG {σ:Type} (L:Lp σ) (s s':σ):Prop:=L.ag s (L.mk s')
abbrev AT {σ:Type} (L:Lp σ) (s':σ):Prop:=L.at (L.mk s')
theorem vT {P:Prop} [Decidable P] (h:P):True∧decide P=true:=⟨trivial, decide_eq_true h⟩
theorem vF {P:Prop} [Decidable P] (h:¬P):True∧decide P=false:=⟨trivial, decide_eq_false h⟩
theorem OI {P:Prop} [Decidable P] (h:¬P):(!decide P)=true:=by simp[h]
theorem OJ {P:Prop} [Decidable P] (h:P):(!decide P)=false:=by simp[h]
theorem nT {P:Prop} [Decidable P] (h:¬P):True∧(!decide P)=true:=⟨trivial, OI h⟩
theorem nF {P:Prop} [Decidable P] (h:P):True∧(!decide P)=false:=⟨trivial, OJ h⟩
theorem OK {b:Bool} (h:¬b=true):b=false:=by simpa using h
theorem Ng {b:Bool} (h:¬b=true):(!b)=true:=by simpa using h
theorem Lq {b:Bool} (h:b=true):(!b)=false:=by simp[h]
theorem bT {b:Bool} (h:b=true):True∧b=true:=⟨trivial, h⟩
theorem bF {b:Bool} (h:¬b=true):True∧b=false:=⟨trivial, OK h⟩
theorem mT {b:Bool} (h:¬b=true):True∧(!b)=true:=⟨trivial, Ng h⟩
theorem mF {b:Bool} (h:b=true):True∧(!b)=false:=⟨trivial, Lq h⟩
abbrev HE (H:List aq):Prop:=H=H
abbrev IX (i n:Int):Prop:=0≤i∧i<n
theorem ix {i n:Int} (h:0≤i∧i<n:=by first | omega | (simp;omega)):IX i n:=h
theorem om {p:Prop} (h:p:=by first | omega | (simp;first | done | omega)):p:=h
abbrev W6 (x:Int):Prop:=True∧IntKind.i64.wrap x=x
theorem w6 {x:Int} (h1:-9223372036854775808≤x:=by first | omega | (simp;first | done | omega)) (h2:x≤9223372036854775807:=by first | omega | (simp;first | done | omega)):W6 x:=⟨trivial, Hw rfl h1 h2⟩
abbrev QD (a n:Int):Prop:=n≠0∧IntKind.i64.wrap (Int.tdiv a n)=a / n
theorem qd {a n:Int} (h0:0≤a:=by first | omega | (simp;omega)) (h1:a≤9223372036854775807:=by first | omega | (simp;omega)) (hn:0<n:=by first | omega | (simp;omega)):QD a n:=by
 refine⟨by omega, ?_⟩
 rw[Int.tdiv_eq_ediv_of_nonneg h0, IntKind.wrap_i64]
 have:=Int.ediv_nonneg h0 (Int.le_of_lt hn)
 have:=Int.ediv_le_self n h0
 omega
abbrev QM (a n:Int):Prop:=n≠0∧Int.tmod a n=a%n
theorem qm {a n:Int} (h0:0≤a:=by first | omega | (simp;omega)) (hn:0<n:=by first | omega | (simp;omega)):QM a n:=⟨by omega, Int.tmod_eq_emod_of_nonneg h0⟩
theorem ai.recast {P:Program} {f:FuncId} {as as':List D} {al:Bool} {r:D} (h:vA [] as as') (hc:ai P f as' [] al r []):ai P f as [] al r []:=fun S μ w us hS hH hus =>
 hc S μ w us hS hH (np hH (fun _ h=>h) hS (.inl fun i A b hA=>by simp at hA) h hus)
structure Ct:Type 1 where
 f:FuncId
 as:List D
 al:Bool
 r:D
abbrev Ct.O (c:Ct):Ov:=.call none c.al c.r
abbrev Ct.O' (c:Ct):Ov:=.call (some c.as) c.al c.r
abbrev Ct.C (P:Program) (c:Ct):Prop:=ai P c.f c.as [] c.al c.r []
abbrev Ct.K (P:Program) (c:Ct):Prop:=vA [] c.as c.as∧ai P c.f c.as [] c.al c.r []
structure vK:Type 1 where
 f:FuncId
 as:List D
 r:D
 B:aq
abbrev vK.O (c:vK):Ov:=.ownd none c.r c.B
abbrev vK.O' (c:vK):Ov:=.ownd (some c.as) c.r c.B
abbrev vK.F (c:vK):Ov:=.ownc none c.r c.B
mutual
def mj:D→Bool
 | .v (.mp _)=>false
 | .agg cs=>fm cs
 | .tup cs=>fm cs
 | .fn _ a b=>fm a&&fm b
 | _=>true
def fm:List D→Bool
 | []=>true
 | d::r=>mj d&&fm r
end
theorem FI:∀(x:V), (∀es, x≠.mp es)→HG x x
 | .int k n, _=>by simp[HG]
 | .bool b, _=>rfl
 | .str s, _=>rfl
 | .nilf, _=>trivial
 | .nsl, _=>trivial
 | .esl, _=>trivial
 | .sl sz enc d l, _=>by simp[HG]
 | .sm ag enc d l, _=>by simp[HG]
 | .nmp, _=>trivial
 | .mp es, h=>(h es rfl).elim
theorem FJ:∀(x:D), mj x=true→HH x x
 | .v x, h=>FI x (fun es e=>by subst e;simp[mj]at h)
 | .nils, _=>rfl
 | .own i, _=>rfl
 | .ptr _ _ _ _, _=>rfl
 | .iptr cs o, _=>by simp[HH]
 | .agg _, _=>rfl
 | .tup _, _=>rfl
 | .fn _ _ _, _=>rfl
 | .yld _, _=>rfl
 | .capd _, _=>rfl
 | .gr _ _, _=>rfl
 | .junk, _=>trivial
theorem zn (x:D) (h:mj x=true):HI [] x x:=by
 cases x<;>exact FJ _ h
theorem zo:∀(l:List D), fm l=true→LC [] l l
 | [], _=>trivial
 | d::r, h=>by simp only[fm, Bool.and_eq_true]at h;exact⟨zn d h.1, zo r h.2⟩
theorem zp (x:D) (h:mj x=true):Lm [] x x:=by
 cases x<;>exact zn _ h
theorem uS:∀(l:List D), fm l=true→LF [] l l
 | [], _=>trivial
 | d::r, h=>by simp only[fm, Bool.and_eq_true]at h;exact⟨zp d h.1, uS r h.2⟩
theorem zq (x:D) (h:mj x=true):MY [] x x:=by
 cases x with
 | agg xs=>exact zo _ (by simpa[mj]using h)
 | fn f a b=>simp only[mj, Bool.and_eq_true]at h;exact⟨rfl, uS a h.1, uS b h.2⟩
 | _=>exact zp _ h
theorem dU:∀(l:List D), fm l=true→vA [] l l
 | [], _=>trivial
 | d::r, h=>by simp only[fm, Bool.and_eq_true]at h;exact⟨zq d h.1, dU r h.2⟩
end Go.Proofs.YtckgpflobhpnpaaGreat
