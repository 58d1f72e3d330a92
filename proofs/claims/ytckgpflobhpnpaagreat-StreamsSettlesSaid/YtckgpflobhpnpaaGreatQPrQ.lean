/-
  Processes, plain law: values of expressions, widths, what a process does.
-/
import Derived.Test.YtckgpflobhpnpaaGreatQPrP
import Derived.Test.YtckgpflobhpnpaaGreatQPrR
namespace Go.Proofs.YtckgpflobhpnpaaGreat
open Go.RowKit
set_option linter.unusedVariables false
set_option linter.unusedSimpArgs false
def bK (p:Pr) (s:Ps) (data:List Int):Ex→Int×Int
 | ⟨op, _, k, w, args⟩ =>
  if op=16 then (s.regs.getD k.n.toNat 0, (p.regs.getD k.n.toNat cC).w)
  else if op=18 then (data.getD k.n.toNat 0, (p.takes.getD k.n.toNat aO).w)
  else if op=17 then ((s.mems.getD k.n.toNat []).getD (Int.tmod ((evL args).getD 0 (0, 0)).1 (s.mems.getD k.n.toNat []).length).toNat 0, (p.mems.getD k.n.toNat bi).w)
  else (dZ op ((evL args).map (·.2)) ((evL args).map (·.1)) [k.n, w.n], gy op ((evL args).map (·.2)) k.n w.n)
where evL:List Ex→List (Int×Int)
 | []=>[]
 | a::r=>bK p s data a::evL r
theorem EE {p:Pr} {s:Ps} {data:List Int}:∀(l:List Ex), bK.evL p s data l=l.map (bK p s data)
 | []=>rfl
 | a::r=>by rw[bK.evL, EE r];rfl
theorem qH (p:Pr) (s:Ps) (data:List Int) (e:Ex):bK p s data e =
  if e.op=16 then (s.regs.getD e.k.n.toNat 0, (p.regs.getD e.k.n.toNat cC).w)
  else if e.op=18 then (data.getD e.k.n.toNat 0, (p.takes.getD e.k.n.toNat aO).w)
  else if e.op=17 then ((s.mems.getD e.k.n.toNat []).getD (Int.tmod ((e.args.map (bK p s data)).getD 0 (0, 0)).1 (s.mems.getD e.k.n.toNat []).length).toNat 0, (p.mems.getD e.k.n.toNat bi).w)
  else (dZ e.op ((e.args.map (bK p s data)).map (·.2)) ((e.args.map (bK p s data)).map (·.1)) [e.k.n, e.w.n], gy e.op ((e.args.map (bK p s data)).map (·.2)) e.k.n e.w.n):=by
 cases e with
 | mk op name k w args=>rw[bK, EE]
structure Sc where
 rw:List Int
 mw:List Int
 tw:List Int
def fq (c:Sc):Ex→Option Int
 | ⟨op, _, k, w, args⟩=>match tyL args with
  | none=>none
  | some ws =>
   if op=16 then (if ws=[]∧0≤k.n∧k.n<c.rw.length then some (c.rw.getD k.n.toNat 0)else none)
   else if op=18 then (if ws=[]∧0≤k.n∧k.n<c.tw.length then some (c.tw.getD k.n.toNat 0)else none)
   else if op=17 then (if ws.length=1∧0≤k.n∧k.n<c.mw.length then some (c.mw.getD k.n.toNat 0)else none)
   else if pO op ws k.n w.n then some (bu op ws k.n w.n)else none
where tyL:List Ex→Option (List Int)
 | []=>some []
 | a::r=>match fq c a, tyL r with
  | some w, some ws=>some (w::ws)
  | _, _=>none
theorem oU {c:Sc}:∀{l:List Ex} {ws:List Int}, fq.tyL c l=some ws→ws.length=l.length∧∀i, i<l.length→fq c (l.getD i dE)=some (ws.getD i 0)
 | [], ws, h=>by rw[fq.tyL]at h;cases h;exact⟨rfl, fun i hi=>absurd hi (Nat.not_lt_zero _)⟩
 | a::r, ws, h=>by
  rw[fq.tyL]at h
  split at h
  ·rename_i w ws' h1 h2
   cases h
   obtain⟨q1, q2⟩:=oU h2
   refine⟨by simp[q1], fun i hi=>?_⟩
   cases i with
   | zero=>exact h1
   | succ i=>exact q2 i (by simpa using hi)
  ·cases h
theorem ja {c:Sc} {e:Ex} {w:Int} (h:fq c e=some w):∃ws, fq.tyL c e.args=some ws ∧
  ((e.op=16∧ws=[]∧0≤e.k.n∧e.k.n<c.rw.length∧w=c.rw.getD e.k.n.toNat 0)∨(e.op=18∧ws=[]∧0≤e.k.n∧e.k.n<c.tw.length∧w=c.tw.getD e.k.n.toNat 0) ∨
   (e.op=17∧ws.length=1∧0≤e.k.n∧e.k.n<c.mw.length∧w=c.mw.getD e.k.n.toNat 0)∨(e.op≠16∧e.op≠17∧e.op≠18∧pO e.op ws e.k.n e.w.n=true∧w=bu e.op ws e.k.n e.w.n)):=by
 cases e with
 | mk op name k w0 args =>
  rw[fq]at h
  split at h
  ·cases h
  ·rename_i ws hws
   refine⟨ws, hws, ?_⟩
   split at h
   ·rename_i ho
    split at h
    ·rename_i hc;cases h;exact .inl ⟨ho, hc.1, hc.2.1, hc.2.2, rfl⟩
    ·cases h
   ·split at h
    ·rename_i ho
     split at h
     ·rename_i hc;cases h;exact .inr (.inl ⟨ho, hc.1, hc.2.1, hc.2.2, rfl⟩)
     ·cases h
    ·split at h
     ·rename_i ho
      split at h
      ·rename_i hc;cases h;exact .inr (.inr (.inl ⟨ho, hc.1, hc.2.1, hc.2.2, rfl⟩))
      ·cases h
     ·split at h
      ·rename_i h1 h2 h3 hc;cases h;exact .inr (.inr (.inr ⟨h1, h3, h2, hc, rfl⟩))
      ·cases h
structure zw (c:Sc) (p:Pr) (s:Ps) (data:List Int):Prop where
 prl:p.regs.length=c.rw.length
 prw:∀i, i<c.rw.length→(p.regs.getD i cC).w=c.rw.getD i 0
 pml:p.mems.length=c.mw.length
 pmw:∀i, i<c.mw.length→(p.mems.getD i bi).w=c.mw.getD i 0
 ptl:p.takes.length=c.tw.length
 ptw:∀i, i<c.tw.length→(p.takes.getD i aO).w=c.tw.getD i 0
 srl:s.regs.length=c.rw.length
 srv:∀i, i<c.rw.length→dV (s.regs.getD i 0) (c.rw.getD i 0)
 sml:s.mems.length=c.mw.length
 smn:∀i, i<c.mw.length→0<(s.mems.getD i []).length
 smv:∀i, i<c.mw.length→∀j, j<(s.mems.getD i []).length→dV ((s.mems.getD i []).getD j 0) (c.mw.getD i 0)
 dl:data.length=c.tw.length
 dv:∀i, i<c.tw.length→dV (data.getD i 0) (c.tw.getD i 0)
 rok:∀i, i<c.rw.length→ay (c.rw.getD i 0)=true
 mok:∀i, i<c.mw.length→ay (c.mw.getD i 0)=true
 tok:∀i, i<c.tw.length→ay (c.tw.getD i 0)=true
theorem dq {α β:Type} (f:α→β) (l:List α) (i:Nat) (d:α) (d':β) (h:i<l.length):(l.map f).getD i d'=f (l.getD i d):=by
 simp[List.getD, List.getElem?_eq_getElem h]
theorem EF {e:Ex} {i:Nat} (h:i<e.args.length):gd (e.args.getD i dE)<gd e:=by
 cases e with
 | mk op name k w args =>
  have key:∀(l:List Ex) (i:Nat), i<l.length→gd (l.getD i dE)≤gd.depL l:=by
   intro l
   induction l with
   | nil=>intro i hi;exact absurd hi (Nat.not_lt_zero _)
   | cons a r ih =>
    intro i hi
    rw[gd.depL]
    cases i with
    | zero=>show gd a≤_;omega
    | succ i =>
     have:=ih i (by simpa using hi)
     show gd (r.getD i dE)≤_
     omega
  have:=key args i h
  rw[gd]
  exact Nat.lt_succ_of_le this
theorem MT {l:List Int} {p:Int→Bool} (h:∀i, i<l.length→p (l.getD i 0)=true):l.all p=true:=by
 rw[List.all_eq_true]
 intro x hx
 obtain⟨i, hi, rfl⟩:=List.mem_iff_getElem.1 hx
 have:=h i hi
 simpa[List.getD, List.getElem?_eq_getElem hi]using this
theorem KG {c:Sc} {p:Pr} {s:Ps} {data:List Int} {args:List Ex} {ws:List Int} (hl:ws.length=args.length)
  (h:∀i, i<args.length→(bK p s data (args.getD i dE)).2=ws.getD i 0∧dV (bK p s data (args.getD i dE)).1 (ws.getD i 0)∧ay (ws.getD i 0)=true) :
  (args.map (bK p s data)).map (·.2)=ws∧((args.map (bK p s data)).map (·.1)).length=ws.length∧F6 ws ((args.map (bK p s data)).map (·.1))=true∧ws.all ay=true:=by
 refine⟨?_, by simp[hl], ?_, MT (fun i hi=>(h i (by omega)).2.2)⟩
 ·apply List.ext_getElem
  ·simp[hl]
  ·intro i h1 h2
   have:=(h i (by omega)).1
   simp only[List.getElem_map]
   have e1:args.getD i dE=args[i]'(by omega):=by simp[List.getD, List.getElem?_eq_getElem (show i<args.length by omega)]
   have e2:ws.getD i 0=ws[i]:=by simp[List.getD, List.getElem?_eq_getElem h2]
   rw[e1, e2]at this
   exact this
 ·refine HK (fun i hi=>?_)
  have hi':i<args.length:=by simpa using hi
  have:=(h i hi').2.1
  rw[List.map_map, dq ((·.1) ∘ bK p s data) args i dE 0 hi']
  exact this
theorem LP {c:Sc} {p:Pr} {s:Ps} {data:List Int} (ho:zw c p s data):∀(n:Nat) (e:Ex) (w:Int), gd e≤n→fq c e=some w→(bK p s data e).2=w∧dV (bK p s data e).1 w∧ay w=true:=by
 intro n
 induction n with
 | zero=>intro e w hd;cases e with | mk op name k w args=>rw[gd]at hd;omega
 | succ n ih =>
  intro e w hd hty
  obtain⟨ws, hws, hc⟩:=ja hty
  obtain⟨hl, hget⟩:=oU hws
  have hargs:∀i, i<e.args.length→(bK p s data (e.args.getD i dE)).2=ws.getD i 0∧dV (bK p s data (e.args.getD i dE)).1 (ws.getD i 0)∧ay (ws.getD i 0)=true:=fun i hi=>ih _ _ (by have:=EF hi;omega) (hget i hi)
  rw[qH]
  rcases hc with ⟨h1, h2, h3, h4, rfl⟩ | ⟨h1, h2, h3, h4, rfl⟩ | ⟨h1, h2, h3, h4, rfl⟩ | ⟨h1, h2, h2', h3, rfl⟩
  ·rw[if_pos h1]
   exact⟨ho.prw _ (by omega), ho.srv _ (by omega), ho.rok _ (by omega)⟩
  ·rw[if_neg (by omega), if_pos h1]
   exact⟨ho.ptw _ (by omega), ho.dv _ (by omega), ho.tok _ (by omega)⟩
  ·rw[if_neg (by omega), if_neg (by omega), if_pos h1]
   refine⟨ho.pmw _ (by omega), ho.smv _ (by omega) _ ?_, ho.mok _ (by omega)⟩
   have hn:=ho.smn e.k.n.toNat (by omega)
   have a0:=(hargs 0 (by omega)).2.1.1
   rw[dq (bK p s data) e.args 0 dE (0, 0) (by omega)]
   have:=Int.tmod_lt_of_pos (bK p s data (e.args.getD 0 dE)).1 (show(0:Int)<(s.mems.getD e.k.n.toNat []).length by omega)
   have h0:=Int.tmod_nonneg (((s.mems.getD e.k.n.toNat []).length:Nat):Int) a0
   omega
  ·rw[if_neg h1, if_neg h2', if_neg h2]
   obtain⟨q1, q2, q3, q4⟩:=KG (c:=c) hl hargs
   rw[q1]
   obtain⟨r1, r2⟩:=Ge (nums:=[e.k.n, e.w.n]) h3 q2 q3 rfl rfl rfl
   refine⟨?_, r2, ?_⟩
   ·unfold gy;rw[h3];rfl
   ·exact(th h3).2.2
theorem EG {a:Ex}:∀{l:List Ex}, a∈l→gd a≤gd.depL l
 | b::r, h=>by
  rw[gd.depL]
  rcases List.mem_cons.1 h with rfl | h
  ·omega
  ·have:=EG h;omega
theorem EH {e a:Ex} (h:a∈e.args):gd a<gd e:=by
 cases e with
 | mk op name k w args=>rw[gd];exact Nat.lt_succ_of_le (EG h)
theorem MU {c:Sc} {e a:Ex} {w:Int} (h:fq c e=some w) (ha:a∈e.args):∃w', fq c a=some w':=by
 obtain⟨ws, h1, _⟩:=ja h
 obtain⟨i, hi, rfl⟩:=List.mem_iff_getElem.1 ha
 have:=(oU h1).2 i hi
 exact⟨_, by simpa[List.getD, List.getElem?_eq_getElem hi]using this⟩
theorem MV {c:Sc} {e:Ex} {w:Int} (h:fq c e=some w):e.args.length≤3:=by
 obtain⟨ws, h1, h2⟩:=ja h
 have hl:=(oU h1).1
 rcases h2 with ⟨_, h2, _⟩ | ⟨_, h2, _⟩ | ⟨_, h2, _⟩ | ⟨_, _, _, h2, _⟩
 ·rw[h2]at hl;simp at hl;omega
 ·rw[h2]at hl;simp at hl;omega
 ·omega
 ·have:=(th h2).1
  have:bQ e.op≤3:=by unfold bQ;split<;>(try split)<;>(try split)<;>(try split)<;>omega
  omega
theorem MW {c:Sc} {p:Pr} {s:Ps} {data:List Int} {e:Ex} {w:Int} (ho:zw c p s data) (h:fq c e=some w) (hop:e.op=16):0≤e.k.n∧e.k.n<s.regs.length∧e.k.n<p.regs.length:=by
 obtain⟨ws, h1, h2⟩:=ja h
 have a1:=ho.srl;have a2:=ho.prl
 rcases h2 with ⟨_, _, h3, h4, _⟩ | ⟨h, _⟩ | ⟨h, _⟩ | ⟨h, _⟩<;>omega
theorem KH {c:Sc} {p:Pr} {s:Ps} {data:List Int} {e:Ex} {w:Int} (ho:zw c p s data) (h:fq c e=some w) (hop:e.op=18):0≤e.k.n∧e.k.n<data.length∧e.k.n<p.takes.length:=by
 obtain⟨ws, h1, h2⟩:=ja h
 have a1:=ho.dl;have a2:=ho.ptl
 rcases h2 with ⟨h, _⟩ | ⟨_, _, h3, h4, _⟩ | ⟨h, _⟩ | ⟨_, _, h, _⟩<;>omega
theorem KI {c:Sc} {p:Pr} {s:Ps} {data:List Int} {e:Ex} {w:Int} (ho:zw c p s data) (h:fq c e=some w) (hop:e.op=17) :
  0≤e.k.n∧e.k.n<s.mems.length∧e.k.n<p.mems.length∧e.args.length=1∧0<(s.mems.getD e.k.n.toNat []).length ∧
   0≤Int.tmod (bK p s data (e.args.getD 0 dE)).1 (s.mems.getD e.k.n.toNat []).length∧Int.tmod (bK p s data (e.args.getD 0 dE)).1 (s.mems.getD e.k.n.toNat []).length<(s.mems.getD e.k.n.toNat []).length:=by
 obtain⟨ws, h1, h2⟩:=ja h
 have a1:=ho.sml;have a2:=ho.pml
 obtain⟨hl, hg⟩:=oU h1
 rcases h2 with ⟨h, _⟩ | ⟨h, _⟩ | ⟨_, h5, h3, h4, _⟩ | ⟨_, h, _⟩<;>try omega
 have hn:=ho.smn e.k.n.toNat (by omega)
 have a0:=(LP ho _ (e.args.getD 0 dE) _ (Nat.le_refl _) (hg 0 (by omega))).2.1.1
 refine⟨by omega, by omega, by omega, by omega, hn, Int.tmod_nonneg _ a0, Int.tmod_lt_of_pos _ (by omega)⟩
theorem nM {p:Pr} {s:Ps} {data:List Int} {e:Ex} (h:e.op=16):(bK p s data e).1=s.regs.getD e.k.n.toNat 0∧(bK p s data e).2=(p.regs.getD e.k.n.toNat cC).w:=by
 rw[qH, if_pos h];exact⟨rfl, rfl⟩
theorem jT {p:Pr} {s:Ps} {data:List Int} {e:Ex} (h:e.op=18):(bK p s data e).1=data.getD e.k.n.toNat 0∧(bK p s data e).2=(p.takes.getD e.k.n.toNat aO).w:=by
 rw[qH, if_neg (by omega), if_pos h];exact⟨rfl, rfl⟩
theorem jU {p:Pr} {s:Ps} {data:List Int} {e:Ex} (h:e.op=17) (hl:e.args.length=1):(bK p s data e).1=(s.mems.getD e.k.n.toNat []).getD (Int.tmod (bK p s data (e.args.getD 0 dE)).1 (s.mems.getD e.k.n.toNat []).length).toNat 0∧(bK p s data e).2=(p.mems.getD e.k.n.toNat bi).w:=by
 rw[qH, if_neg (by omega), if_neg (by omega), if_pos h, dq (bK p s data) e.args 0 dE (0, 0) (by omega)];exact⟨rfl, rfl⟩
def mX (p:Pr) (s:Ps) (data:List Int) (l:List Ex):List Int:=l.map fun a=>(bK p s data a).1
def jb (p:Pr) (s:Ps) (data:List Int) (l:List Ex):List Int:=l.map fun a=>(bK p s data a).2
theorem HX {p:Pr} {s:Ps} {data:List Int} (l:List Ex):(mX p s data l).length=l.length:=by simp[mX]
theorem A8 {p:Pr} {s:Ps} {data:List Int} (l:List Ex):(jb p s data l).length=l.length:=by simp[jb]
theorem ye {α:Type} {l:List α} {i:Nat} {d:α} (h:i<l.length):l.take (i+1)=l.take i++[l.getD i d]:=by
 rw[List.take_succ_eq_append_getElem h];simp[List.getD, List.getElem?_eq_getElem h]
theorem Gf {p:Pr} {s:Ps} {data:List Int} {l:List Ex} {i:Nat} (h:i<l.length):mX p s data (l.take (i+1))=mX p s data (l.take i)++[(bK p s data (l.getD i dE)).1]:=by
 rw[ye (d:=dE) h];simp[mX]
theorem Gg {p:Pr} {s:Ps} {data:List Int} {l:List Ex} {i:Nat} (h:i<l.length):jb p s data (l.take (i+1))=jb p s data (l.take i)++[(bK p s data (l.getD i dE)).2]:=by
 rw[ye (d:=dE) h];simp[jb]
theorem t9 {p:Pr} {s:Ps} {data:List Int} {e:Ex} (h1:¬e.op=16) (h2:¬e.op=18) (h3:¬e.op=17):(bK p s data e).1=dZ e.op (jb p s data e.args) (mX p s data e.args) [e.k.n, e.w.n]∧(bK p s data e).2=gy e.op (jb p s data e.args) e.k.n e.w.n:=by
 rw[qH, if_neg h1, if_neg h2, if_neg h3]
 simp only[mX, jb, List.map_map]
 exact⟨rfl, rfl⟩
theorem oV {l:List Ex} {i:Nat} (h:i<l.length):l.getD i dE∈l:=by simp[List.getD, List.getElem?_eq_getElem h]
end Go.Proofs.YtckgpflobhpnpaaGreat
