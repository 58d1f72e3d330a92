/-
  Processes, plain law: values of expressions, widths, what a process does.
-/
import Derived.Test.YtckgpflobhpnpaaGreatQPrP
import Derived.Test.YtckgpflobhpnpaaGreatQPrR
namespace Go.Proofs.YtckgpflobhpnpaaGreat
open Go.RowKit
set_option linter.unusedVariables false
set_option linter.unusedSimpArgs false
def bC (p:Pr) (s:Ps) (data:List Int):Ex→Int×Int
 | ⟨op, _, k, w, args⟩ =>
  if op=16 then (s.regs.getD k.n.toNat 0, (p.regs.getD k.n.toNat cb).w)
  else if op=18 then (data.getD k.n.toNat 0, (p.takes.getD k.n.toNat aK).w)
  else if op=17 then ((s.mems.getD k.n.toNat []).getD (Int.tmod ((evL args).getD 0 (0, 0)).1 (s.mems.getD k.n.toNat []).length).toNat 0, (p.mems.getD k.n.toNat ba).w)
  else (dA op ((evL args).map (·.2)) ((evL args).map (·.1)) [k.n, w.n], ge op ((evL args).map (·.2)) k.n w.n)
where evL:List Ex→List (Int×Int)
 | []=>[]
 | a::r=>bC p s data a::evL r
theorem CJ {p:Pr} {s:Ps} {data:List Int}:∀(l:List Ex), bC.evL p s data l=l.map (bC p s data)
 | []=>rfl
 | a::r=>by rw[bC.evL, CJ r];rfl
theorem pT (p:Pr) (s:Ps) (data:List Int) (e:Ex):bC p s data e =
  if e.op=16 then (s.regs.getD e.k.n.toNat 0, (p.regs.getD e.k.n.toNat cb).w)
  else if e.op=18 then (data.getD e.k.n.toNat 0, (p.takes.getD e.k.n.toNat aK).w)
  else if e.op=17 then ((s.mems.getD e.k.n.toNat []).getD (Int.tmod ((e.args.map (bC p s data)).getD 0 (0, 0)).1 (s.mems.getD e.k.n.toNat []).length).toNat 0, (p.mems.getD e.k.n.toNat ba).w)
  else (dA e.op ((e.args.map (bC p s data)).map (·.2)) ((e.args.map (bC p s data)).map (·.1)) [e.k.n, e.w.n], ge e.op ((e.args.map (bC p s data)).map (·.2)) e.k.n e.w.n):=by
 cases e with
 | mk op name k w args=>rw[bC, CJ]
structure Sc where
 rw:List Int
 mw:List Int
 tw:List Int
def e9 (c:Sc):Ex→Option Int
 | ⟨op, _, k, w, args⟩=>match tyL args with
  | none=>none
  | some ws =>
   if op=16 then (if ws=[]∧0≤k.n∧k.n<c.rw.length then some (c.rw.getD k.n.toNat 0)else none)
   else if op=18 then (if ws=[]∧0≤k.n∧k.n<c.tw.length then some (c.tw.getD k.n.toNat 0)else none)
   else if op=17 then (if ws.length=1∧0≤k.n∧k.n<c.mw.length then some (c.mw.getD k.n.toNat 0)else none)
   else if oP op ws k.n w.n then some (bj op ws k.n w.n)else none
where tyL:List Ex→Option (List Int)
 | []=>some []
 | a::r=>match e9 c a, tyL r with
  | some w, some ws=>some (w::ws)
  | _, _=>none
theorem nG {c:Sc}:∀{l:List Ex} {ws:List Int}, e9.tyL c l=some ws→ws.length=l.length∧∀i, i<l.length→e9 c (l.getD i dE)=some (ws.getD i 0)
 | [], ws, h=>by rw[e9.tyL]at h;cases h;exact⟨rfl, fun i hi=>absurd hi (Nat.not_lt_zero _)⟩
 | a::r, ws, h=>by
  rw[e9.tyL]at h
  split at h
  ·rename_i w ws' h1 h2
   cases h
   obtain⟨q1, q2⟩:=nG h2
   refine⟨by simp[q1], fun i hi=>?_⟩
   cases i with
   | zero=>exact h1
   | succ i=>exact q2 i (by simpa using hi)
  ·cases h
theorem iO {c:Sc} {e:Ex} {w:Int} (h:e9 c e=some w):∃ws, e9.tyL c e.args=some ws ∧
  ((e.op=16∧ws=[]∧0≤e.k.n∧e.k.n<c.rw.length∧w=c.rw.getD e.k.n.toNat 0)∨(e.op=18∧ws=[]∧0≤e.k.n∧e.k.n<c.tw.length∧w=c.tw.getD e.k.n.toNat 0) ∨
   (e.op=17∧ws.length=1∧0≤e.k.n∧e.k.n<c.mw.length∧w=c.mw.getD e.k.n.toNat 0)∨(e.op≠16∧e.op≠17∧e.op≠18∧oP e.op ws e.k.n e.w.n=true∧w=bj e.op ws e.k.n e.w.n)):=by
 cases e with
 | mk op name k w0 args =>
  rw[e9]at h
  split at h
  ·cases h
  ·rename_i ws hws
   refine⟨ws, hws, ?_⟩
   split at h
   ·rename_i ho
    split at h
    ·rename_i hc;cases h;exact .inl ⟨ho, hc.1, hc.2.1, hc.2.2, rfl⟩
    ·cases h
   ·split at h
    ·rename_i ho
     split at h
     ·rename_i hc;cases h;exact .inr (.inl ⟨ho, hc.1, hc.2.1, hc.2.2, rfl⟩)
     ·cases h
    ·split at h
     ·rename_i ho
      split at h
      ·rename_i hc;cases h;exact .inr (.inr (.inl ⟨ho, hc.1, hc.2.1, hc.2.2, rfl⟩))
      ·cases h
     ·split at h
      ·rename_i h1 h2 h3 hc;cases h;exact .inr (.inr (.inr ⟨h1, h3, h2, hc, rfl⟩))
      ·cases h
structure xT (c:Sc) (p:Pr) (s:Ps) (data:List Int):Prop where
 prl:p.regs.length=c.rw.length
 prw:∀i, i<c.rw.length→(p.regs.getD i cb).w=c.rw.getD i 0
 pml:p.mems.length=c.mw.length
 pmw:∀i, i<c.mw.length→(p.mems.getD i ba).w=c.mw.getD i 0
 ptl:p.takes.length=c.tw.length
 ptw:∀i, i<c.tw.length→(p.takes.getD i aK).w=c.tw.getD i 0
 srl:s.regs.length=c.rw.length
 srv:∀i, i<c.rw.length→dt (s.regs.getD i 0) (c.rw.getD i 0)
 sml:s.mems.length=c.mw.length
 smn:∀i, i<c.mw.length→0<(s.mems.getD i []).length
 smv:∀i, i<c.mw.length→∀j, j<(s.mems.getD i []).length→dt ((s.mems.getD i []).getD j 0) (c.mw.getD i 0)
 dl:data.length=c.tw.length
 dv:∀i, i<c.tw.length→dt (data.getD i 0) (c.tw.getD i 0)
 rok:∀i, i<c.rw.length→ax (c.rw.getD i 0)=true
 mok:∀i, i<c.mw.length→ax (c.mw.getD i 0)=true
 tok:∀i, i<c.tw.length→ax (c.tw.getD i 0)=true
theorem c6 {α β:Type} (f:α→β) (l:List α) (i:Nat) (d:α) (d':β) (h:i<l.length):(l.map f).getD i d'=f (l.getD i d):=by
 simp[List.getD, List.getElem?_eq_getElem h]
theorem CL {e:Ex} {i:Nat} (h:i<e.args.length):fS (e.args.getD i dE)<fS e:=by
 cases e with
 | mk op name k w args =>
  have key:∀(l:List Ex) (i:Nat), i<l.length→fS (l.getD i dE)≤fS.depL l:=by
   intro l
   induction l with
   | nil=>intro i hi;exact absurd hi (Nat.not_lt_zero _)
   | cons a r ih =>
    intro i hi
    rw[fS.depL]
    cases i with
    | zero=>show fS a≤_;omega
    | succ i =>
     have:=ih i (by simpa using hi)
     show fS (r.getD i dE)≤_
     omega
  have:=key args i h
  rw[fS]
  exact Nat.lt_succ_of_le this
theorem Kp {l:List Int} {p:Int→Bool} (h:∀i, i<l.length→p (l.getD i 0)=true):l.all p=true:=by
 rw[List.all_eq_true]
 intro x hx
 obtain⟨i, hi, rfl⟩:=List.mem_iff_getElem.1 hx
 have:=h i hi
 simpa[List.getD, List.getElem?_eq_getElem hi]using this
theorem Il {c:Sc} {p:Pr} {s:Ps} {data:List Int} {args:List Ex} {ws:List Int} (hl:ws.length=args.length)
  (h:∀i, i<args.length→(bC p s data (args.getD i dE)).2=ws.getD i 0∧dt (bC p s data (args.getD i dE)).1 (ws.getD i 0)∧ax (ws.getD i 0)=true) :
  (args.map (bC p s data)).map (·.2)=ws∧((args.map (bC p s data)).map (·.1)).length=ws.length∧D6 ws ((args.map (bC p s data)).map (·.1))=true∧ws.all ax=true:=by
 refine⟨?_, by simp[hl], ?_, Kp (fun i hi=>(h i (by omega)).2.2)⟩
 ·apply List.ext_getElem
  ·simp[hl]
  ·intro i h1 h2
   have:=(h i (by omega)).1
   simp only[List.getElem_map]
   have e1:args.getD i dE=args[i]'(by omega):=by simp[List.getD, List.getElem?_eq_getElem (show i<args.length by omega)]
   have e2:ws.getD i 0=ws[i]:=by simp[List.getD, List.getElem?_eq_getElem h2]
   rw[e1, e2]at this
   exact this
 ·refine FL (fun i hi=>?_)
  have hi':i<args.length:=by simpa using hi
  have:=(h i hi').2.1
  rw[List.map_map, c6 ((·.1) ∘ bC p s data) args i dE 0 hi']
  exact this
theorem Jq {c:Sc} {p:Pr} {s:Ps} {data:List Int} (ho:xT c p s data):∀(n:Nat) (e:Ex) (w:Int), fS e≤n→e9 c e=some w→(bC p s data e).2=w∧dt (bC p s data e).1 w∧ax w=true:=by
 intro n
 induction n with
 | zero=>intro e w hd;cases e with | mk op name k w args=>rw[fS]at hd;omega
 | succ n ih =>
  intro e w hd hty
  obtain⟨ws, hws, hc⟩:=iO hty
  obtain⟨hl, hget⟩:=nG hws
  have hargs:∀i, i<e.args.length→(bC p s data (e.args.getD i dE)).2=ws.getD i 0∧dt (bC p s data (e.args.getD i dE)).1 (ws.getD i 0)∧ax (ws.getD i 0)=true:=fun i hi=>ih _ _ (by have:=CL hi;omega) (hget i hi)
  rw[pT]
  rcases hc with ⟨h1, h2, h3, h4, rfl⟩ | ⟨h1, h2, h3, h4, rfl⟩ | ⟨h1, h2, h3, h4, rfl⟩ | ⟨h1, h2, h2', h3, rfl⟩
  ·rw[if_pos h1]
   exact⟨ho.prw _ (by omega), ho.srv _ (by omega), ho.rok _ (by omega)⟩
  ·rw[if_neg (by omega), if_pos h1]
   exact⟨ho.ptw _ (by omega), ho.dv _ (by omega), ho.tok _ (by omega)⟩
  ·rw[if_neg (by omega), if_neg (by omega), if_pos h1]
   refine⟨ho.pmw _ (by omega), ho.smv _ (by omega) _ ?_, ho.mok _ (by omega)⟩
   have hn:=ho.smn e.k.n.toNat (by omega)
   have a0:=(hargs 0 (by omega)).2.1.1
   rw[c6 (bC p s data) e.args 0 dE (0, 0) (by omega)]
   have:=Int.tmod_lt_of_pos (bC p s data (e.args.getD 0 dE)).1 (show(0:Int)<(s.mems.getD e.k.n.toNat []).length by omega)
   have h0:=Int.tmod_nonneg (((s.mems.getD e.k.n.toNat []).length:Nat):Int) a0
   omega
  ·rw[if_neg h1, if_neg h2', if_neg h2]
   obtain⟨q1, q2, q3, q4⟩:=Il (c:=c) hl hargs
   rw[q1]
   obtain⟨r1, r2⟩:=Ee (nums:=[e.k.n, e.w.n]) h3 q2 q3 rfl rfl rfl
   refine⟨?_, r2, ?_⟩
   ·unfold ge;rw[h3];rfl
   ·exact(r9 h3).2.2
theorem CM {a:Ex}:∀{l:List Ex}, a∈l→fS a≤fS.depL l
 | b::r, h=>by
  rw[fS.depL]
  rcases List.mem_cons.1 h with rfl | h
  ·omega
  ·have:=CM h;omega
theorem CP {e a:Ex} (h:a∈e.args):fS a<fS e:=by
 cases e with
 | mk op name k w args=>rw[fS];exact Nat.lt_succ_of_le (CM h)
theorem Kq {c:Sc} {e a:Ex} {w:Int} (h:e9 c e=some w) (ha:a∈e.args):∃w', e9 c a=some w':=by
 obtain⟨ws, h1, _⟩:=iO h
 obtain⟨i, hi, rfl⟩:=List.mem_iff_getElem.1 ha
 have:=(nG h1).2 i hi
 exact⟨_, by simpa[List.getD, List.getElem?_eq_getElem hi]using this⟩
theorem Kr {c:Sc} {e:Ex} {w:Int} (h:e9 c e=some w):e.args.length≤3:=by
 obtain⟨ws, h1, h2⟩:=iO h
 have hl:=(nG h1).1
 rcases h2 with ⟨_, h2, _⟩ | ⟨_, h2, _⟩ | ⟨_, h2, _⟩ | ⟨_, _, _, h2, _⟩
 ·rw[h2]at hl;simp at hl;omega
 ·rw[h2]at hl;simp at hl;omega
 ·omega
 ·have:=(r9 h2).1
  have:bH e.op≤3:=by unfold bH;split<;>(try split)<;>(try split)<;>(try split)<;>omega
  omega
theorem Ks {c:Sc} {p:Pr} {s:Ps} {data:List Int} {e:Ex} {w:Int} (ho:xT c p s data) (h:e9 c e=some w) (hop:e.op=16):0≤e.k.n∧e.k.n<s.regs.length∧e.k.n<p.regs.length:=by
 obtain⟨ws, h1, h2⟩:=iO h
 have a1:=ho.srl;have a2:=ho.prl
 rcases h2 with ⟨_, _, h3, h4, _⟩ | ⟨h, _⟩ | ⟨h, _⟩ | ⟨h, _⟩<;>omega
theorem Im {c:Sc} {p:Pr} {s:Ps} {data:List Int} {e:Ex} {w:Int} (ho:xT c p s data) (h:e9 c e=some w) (hop:e.op=18):0≤e.k.n∧e.k.n<data.length∧e.k.n<p.takes.length:=by
 obtain⟨ws, h1, h2⟩:=iO h
 have a1:=ho.dl;have a2:=ho.ptl
 rcases h2 with ⟨h, _⟩ | ⟨_, _, h3, h4, _⟩ | ⟨h, _⟩ | ⟨_, _, h, _⟩<;>omega
theorem Io {c:Sc} {p:Pr} {s:Ps} {data:List Int} {e:Ex} {w:Int} (ho:xT c p s data) (h:e9 c e=some w) (hop:e.op=17) :
  0≤e.k.n∧e.k.n<s.mems.length∧e.k.n<p.mems.length∧e.args.length=1∧0<(s.mems.getD e.k.n.toNat []).length ∧
   0≤Int.tmod (bC p s data (e.args.getD 0 dE)).1 (s.mems.getD e.k.n.toNat []).length∧Int.tmod (bC p s data (e.args.getD 0 dE)).1 (s.mems.getD e.k.n.toNat []).length<(s.mems.getD e.k.n.toNat []).length:=by
 obtain⟨ws, h1, h2⟩:=iO h
 have a1:=ho.sml;have a2:=ho.pml
 obtain⟨hl, hg⟩:=nG h1
 rcases h2 with ⟨h, _⟩ | ⟨h, _⟩ | ⟨_, h5, h3, h4, _⟩ | ⟨_, h, _⟩<;>try omega
 have hn:=ho.smn e.k.n.toNat (by omega)
 have a0:=(Jq ho _ (e.args.getD 0 dE) _ (Nat.le_refl _) (hg 0 (by omega))).2.1.1
 refine⟨by omega, by omega, by omega, by omega, hn, Int.tmod_nonneg _ a0, Int.tmod_lt_of_pos _ (by omega)⟩
theorem mB {p:Pr} {s:Ps} {data:List Int} {e:Ex} (h:e.op=16):(bC p s data e).1=s.regs.getD e.k.n.toNat 0∧(bC p s data e).2=(p.regs.getD e.k.n.toNat cb).w:=by
 rw[pT, if_pos h];exact⟨rfl, rfl⟩
theorem js {p:Pr} {s:Ps} {data:List Int} {e:Ex} (h:e.op=18):(bC p s data e).1=data.getD e.k.n.toNat 0∧(bC p s data e).2=(p.takes.getD e.k.n.toNat aK).w:=by
 rw[pT, if_neg (by omega), if_pos h];exact⟨rfl, rfl⟩
theorem jt {p:Pr} {s:Ps} {data:List Int} {e:Ex} (h:e.op=17) (hl:e.args.length=1):(bC p s data e).1=(s.mems.getD e.k.n.toNat []).getD (Int.tmod (bC p s data (e.args.getD 0 dE)).1 (s.mems.getD e.k.n.toNat []).length).toNat 0∧(bC p s data e).2=(p.mems.getD e.k.n.toNat ba).w:=by
 rw[pT, if_neg (by omega), if_neg (by omega), if_pos h, c6 (bC p s data) e.args 0 dE (0, 0) (by omega)];exact⟨rfl, rfl⟩
def lN (p:Pr) (s:Ps) (data:List Int) (l:List Ex):List Int:=l.map fun a=>(bC p s data a).1
def iP (p:Pr) (s:Ps) (data:List Int) (l:List Ex):List Int:=l.map fun a=>(bC p s data a).2
theorem FY {p:Pr} {s:Ps} {data:List Int} (l:List Ex):(lN p s data l).length=l.length:=by simp[lN]
theorem zw {p:Pr} {s:Ps} {data:List Int} (l:List Ex):(iP p s data l).length=l.length:=by simp[iP]
theorem wG {α:Type} {l:List α} {i:Nat} {d:α} (h:i<l.length):l.take (i+1)=l.take i++[l.getD i d]:=by
 rw[List.take_succ_eq_append_getElem h];simp[List.getD, List.getElem?_eq_getElem h]
theorem Ef {p:Pr} {s:Ps} {data:List Int} {l:List Ex} {i:Nat} (h:i<l.length):lN p s data (l.take (i+1))=lN p s data (l.take i)++[(bC p s data (l.getD i dE)).1]:=by
 rw[wG (d:=dE) h];simp[lN]
theorem Eg {p:Pr} {s:Ps} {data:List Int} {l:List Ex} {i:Nat} (h:i<l.length):iP p s data (l.take (i+1))=iP p s data (l.take i)++[(bC p s data (l.getD i dE)).2]:=by
 rw[wG (d:=dE) h];simp[iP]
theorem sS {p:Pr} {s:Ps} {data:List Int} {e:Ex} (h1:¬e.op=16) (h2:¬e.op=18) (h3:¬e.op=17):(bC p s data e).1=dA e.op (iP p s data e.args) (lN p s data e.args) [e.k.n, e.w.n]∧(bC p s data e).2=ge e.op (iP p s data e.args) e.k.n e.w.n:=by
 rw[pT, if_neg h1, if_neg h2, if_neg h3]
 simp only[lN, iP, List.map_map]
 exact⟨rfl, rfl⟩
theorem nI {l:List Ex} {i:Nat} (h:i<l.length):l.getD i dE∈l:=by simp[List.getD, List.getElem?_eq_getElem h]
end Go.Proofs.YtckgpflobhpnpaaGreat
