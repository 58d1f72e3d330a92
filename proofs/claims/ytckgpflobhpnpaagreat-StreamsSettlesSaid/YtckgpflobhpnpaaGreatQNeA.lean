/-
  Processes and circuits, plain data: what a process does at a tick, what a circuit does.
-/
import Derived.Test.YtckgpflobhpnpaaGreatQPrG
namespace Go.Proofs.YtckgpflobhpnpaaGreat
open Go.RowKit
set_option linter.unusedVariables false
set_option linter.unusedSimpArgs false
def tab {α:Type} (f:Nat→α) (n:Nat):List α:=(List.range n).map f
theorem wv {α:Type} (f:Nat→α) (n:Nat):tab f (n+1)=tab f n++[f n]:=by simp[tab, List.range_succ]
theorem aq {α:Type} (f:Nat→α) (n:Nat):(tab f n).length=n:=by simp[tab]
theorem aC {α:Type} {f:Nat→α} {n i:Nat} {d:α} (h:i<n):(tab f n).getD i d=f i:=by
 simp[tab, List.getD, List.getElem?_eq_getElem, h]
theorem zy {α:Type} {f:Nat→α} {n i:Nat} {d:α} (h:n≤i):(tab f n).getD i d=d:=by
 rw[List.getD, List.getElem?_eq_none (by rw[aq];exact h)];rfl
theorem iL {α:Type} {f g:Nat→α} {n:Nat} (h:∀i, i<n→f i=g i):tab f n=tab g n:=by
 unfold tab
 exact List.map_congr_left (fun a ha=>h a (List.mem_range.1 ha))
theorem Ia {α:Type} {l:List α} {d:α}:l=tab (fun i=>l.getD i d) l.length:=by
 apply List.ext_getElem
 ·rw[aq]
 ·intro i h1 h2;simp[tab, List.getD, List.getElem?_eq_getElem h1]
theorem dt {α:Type} {a b:List α} {d:α} (hl:a.length=b.length) (h:∀i, i<a.length→a.getD i d=b.getD i d):a=b:=by
 apply List.ext_getElem hl
 intro i h1 h2
 have:=h i h1
 simpa[List.getD, List.getElem?_eq_getElem h1, List.getElem?_eq_getElem h2]using this
theorem EN {α β:Type} {l:List α} {d:α} (f:α→β):l.map f=tab (fun i=>f (l.getD i d)) l.length:=by
 apply List.ext_getElem
 ·simp[aq]
 ·intro i h1 h2;rw[List.length_map]at h1;simp[tab, List.getD, List.getElem?_eq_getElem h1]
theorem KL {α:Type} {f:Nat→α} {l:List α} {k:Nat} (hk:k<l.length):(tab f k++l.drop k).set k (f k)=tab f (k+1)++l.drop (k+1):=by
 rw[List.set_append_right _ _ (by rw[aq];omega), aq, Nat.sub_self, wv, List.append_assoc]
 congr 1
 rw[List.drop_eq_getElem_cons hk];rfl
theorem Ib {α:Type} {f:Nat→α} {l:List α} {k:Nat} (hk:l.length≤k):tab f k++l.drop k=tab f k:=by rw[List.drop_eq_nil_of_le hk, List.append_nil]
theorem cu {α:Type} {l:List α} {i j:Nat} {x d:α} (h:i<l.length):(l.set i x).getD j d=if i=j then x else l.getD j d:=by
 simp only[List.getD, List.getElem?_set]
 split
 ·rename_i e;subst e;simp[h]
 ·rfl
def dG (f:Nat→Bool):Nat→Bool
 | 0=>true
 | n+1=>dG f n&&f n
theorem bL {f:Nat→Bool}:∀{n:Nat}, dG f n=true↔∀i, i<n→f i=true
 | 0=>⟨fun _ i hi=>absurd hi (Nat.not_lt_zero _), fun _=>rfl⟩
 | n+1=>by
  rw[dG, Bool.and_eq_true, bL]
  constructor
  ·rintro⟨h1, h2⟩ i hi
   rcases Nat.lt_or_ge i n with h | h
   ·exact h1 i h
   ·rw[show i=n by omega];exact h2
  ·intro h;exact⟨fun i hi=>h i (by omega), h n (by omega)⟩
theorem fI {f:Nat→Bool} {n i:Nat} (hi:i<n) (h:f i=false):dG f n=false:=by
 cases hh:dG f n
 ·rfl
 ·rw[bL.1 hh i hi]at h;cases h
def lP (p:Pr) (s:Ps) (data:List Int) (e:Ex):Bool:=decide ((bK p s data e).1=1)
def ww (p:Pr):List Int:=List.replicate p.takes.length 0
abbrev mY (p:Pr) (i:Nat):Tk:=p.takes.getD i aO
abbrev ub (p:Pr) (i:Nat):Pt:=p.puts.getD i aK
abbrev Gk (p:Pr) (i:Nat):Rg:=p.regs.getD i cC
abbrev mZ (p:Pr) (i:Nat):Mm:=p.mems.getD i bi
def rU (p:Pr) (s:Ps) (hs:List Hd) (i:Nat):Int:=if lP p s (ww p) (mY p i).when=true∧(hs.getD i aP).has=true then (hs.getD i aP).v else 0
def jG (p:Pr) (s:Ps) (hs:List Hd):List Int:=tab (rU p s hs) p.takes.length
def Bb (p:Pr) (s:Ps) (data:List Int) (i:Nat):List Int :=
 if lP p s data (mZ p i).enable=true then (s.mems.getD i []).set (Int.tmod (bK p s data (mZ p i).addr).1 (mZ p i).words).toNat (bK p s data (mZ p i).data).1 else s.mems.getD i []
def eS (p:Pr) (s:Ps) (data:List Int):Ps:=⟨tab (fun i=>(bK p s data (Gk p i).next).1) p.regs.length, tab (Bb p s data) p.mems.length⟩
def kI (p:Pr) (s:Ps) (hs:List Hd) (i:Nat):Bool:=(hs.getD i aP).has||!lP p s (jG p s hs) (mY p i).when
def pR (p:Pr) (s:Ps) (hs:List Hd) (rs:List Bool) (i:Nat):Bool:=rs.getD i false||!lP p s (jG p s hs) (ub p i).when
def fJ (p:Pr) (s:Ps) (hs:List Hd) (rs:List Bool):Bool:=dG (kI p s hs) p.takes.length&&dG (pR p s hs rs) p.puts.length
def pS (p:Pr) (s:Ps) (hs:List Hd) (i:Nat):Bool:=lP p s (jG p s hs) (mY p i).when
def pT (p:Pr) (s:Ps) (hs:List Hd) (i:Nat):Hd:=if lP p s (jG p s hs) (ub p i).when=true then ⟨true, (bK p s (jG p s hs) (ub p i).data).1⟩else aP
def aM (p:Pr) (s:Ps) (hs:List Hd) (rs:List Bool):Fi :=
 if fJ p s hs rs=true then ⟨true, eS p s (jG p s hs), tab (pS p s hs) p.takes.length, tab (pT p s hs) p.puts.length⟩
 else ⟨false, s, List.replicate p.takes.length false, List.replicate p.puts.length aP⟩
def aR (p:Pr):Ps:=⟨p.regs.map (·.init), p.mems.map (fun m=>List.replicate m.words.toNat 0)⟩
def b8 (v w:Int):Bool:=decide (0≤v)&&decide (v≤an w)
theorem wx {v w:Int}:b8 v w=true↔dV v w:=by simp[b8, dV]
def jd (p:Pr) (s:Ps) (i:Nat):Bool:=decide (((s.mems.getD i []).length:Int)=(mZ p i).words)&&dG (fun j=>b8 ((s.mems.getD i []).getD j 0) (mZ p i).w) (s.mems.getD i []).length
def b5 (p:Pr) (s:Ps):Bool:=decide (s.regs.length=p.regs.length)&&decide (s.mems.length=p.mems.length)&&dG (fun i=>b8 (s.regs.getD i 0) (Gk p i).w) s.regs.length&&dG (jd p s) s.mems.length
def rV (p:Pr):Sc:=⟨p.regs.map (·.w), p.mems.map (·.w), p.takes.map (·.w)⟩
def Q2 (p:Pr):Sc:=⟨p.regs.map (·.w), p.mems.map (·.w), []⟩
structure gW (p:Pr):Prop where
 rl:p.regs.length≤100
 ml:p.mems.length≤100
 tl:p.takes.length≤100
 pl:p.puts.length≤100
 rw:∀i, i<p.regs.length→ay (Gk p i).w=true∧dV (Gk p i).init (Gk p i).w∧fq (rV p) (Gk p i).next=some (Gk p i).w∧gd (Gk p i).next≤3
 mw:∀i, i<p.mems.length→ay (mZ p i).w=true∧(1≤(mZ p i).words∧(mZ p i).words≤4)∧(fq (rV p) (mZ p i).enable=some 1∧gd (mZ p i).enable≤3)∧((∃v, fq (rV p) (mZ p i).addr=some v)∧gd (mZ p i).addr≤3)∧fq (rV p) (mZ p i).data=some (mZ p i).w∧gd (mZ p i).data≤3
 tw:∀i, i<p.takes.length→ay (mY p i).w=true∧fq (Q2 p) (mY p i).when=some 1∧gd (mY p i).when≤3
 pw:∀i, i<p.puts.length→ay (ub p i).w=true∧(fq (rV p) (ub p i).when=some 1∧gd (ub p i).when≤3)∧fq (rV p) (ub p i).data=some (ub p i).w∧gd (ub p i).data≤3
structure qI (p:Pr) (s:Ps):Prop where
 rl:s.regs.length=p.regs.length
 rv:∀i, i<p.regs.length→dV (s.regs.getD i 0) (Gk p i).w
 ml:s.mems.length=p.mems.length
 mn:∀i, i<p.mems.length→((s.mems.getD i []).length:Int)=(mZ p i).words
 mv:∀i, i<p.mems.length→∀j, j<(s.mems.getD i []).length→dV ((s.mems.getD i []).getD j 0) (mZ p i).w
structure CQ (p:Pr) (d:List Int):Prop where
 l:d.length=p.takes.length
 v:∀i, i<p.takes.length→dV (d.getD i 0) (mY p i).w
structure CR (p:Pr) (hs:List Hd):Prop where
 l:hs.length=p.takes.length
 v:∀i, i<p.takes.length→(hs.getD i aP).has=true→dV (hs.getD i aP).v (mY p i).w
theorem Gl {p:Pr} {s:Ps}:b5 p s=true↔qI p s:=by
 unfold b5 jd
 simp only[Bool.and_eq_true, decide_eq_true_eq, bL, wx]
 constructor
 ·rintro⟨⟨⟨h1, h2⟩, h3⟩, h4⟩
  exact⟨h1, fun i hi=>h3 i (by omega), h2, fun i hi=>(h4 i (by omega)).1, fun i hi=>(h4 i (by omega)).2⟩
 ·intro h
  exact⟨⟨⟨h.rl, h.ml⟩, fun i hi=>h.rv i (by have:=h.rl;omega)⟩, fun i hi=>⟨h.mn i (by have:=h.ml;omega), h.mv i (by have:=h.ml;omega)⟩⟩
set_option maxHeartbeats 1600000 in
theorem nN {p:Pr} {s:Ps} {d:List Int} (hp:gW p) (hs:qI p s) (hd:CQ p d):zw (rV p) p s d where
 prl:=by simp[rV]
 prw:=fun i hi=>by
  have hi':i<p.regs.length:=by simpa[rV]using hi
  show(p.regs.getD i cC).w=(p.regs.map (·.w)).getD i 0
  rw[dq (·.w) p.regs i cC 0 hi']
 pml:=by simp[rV]
 pmw:=fun i hi=>by
  have hi':i<p.mems.length:=by simpa[rV]using hi
  show(p.mems.getD i bi).w=(p.mems.map (·.w)).getD i 0
  rw[dq (·.w) p.mems i bi 0 hi']
 ptl:=by simp[rV]
 ptw:=fun i hi=>by
  have hi':i<p.takes.length:=by simpa[rV]using hi
  show(p.takes.getD i aO).w=(p.takes.map (·.w)).getD i 0
  rw[dq (·.w) p.takes i aO 0 hi']
 srl:=(hs.rl).trans (by simp[rV])
 srv:=fun i hi=>by
  have hi':i<p.regs.length:=by simpa[rV]using hi
  show dV _ ((p.regs.map (·.w)).getD i 0)
  rw[dq (·.w) p.regs i cC 0 hi']
  exact hs.rv i hi'
 sml:=(hs.ml).trans (by simp[rV])
 smn:=fun i hi=>by
  have hi':i<p.mems.length:=by simpa[rV]using hi
  have:=hs.mn i hi'
  have:=(hp.mw i hi').2.1
  omega
 smv:=fun i hi j hj=>by
  have hi':i<p.mems.length:=by simpa[rV]using hi
  show dV _ ((p.mems.map (·.w)).getD i 0)
  rw[dq (·.w) p.mems i bi 0 hi']
  exact hs.mv i hi' j hj
 dl:=(hd.l).trans (by simp[rV])
 dv:=fun i hi=>by
  have hi':i<p.takes.length:=by simpa[rV]using hi
  show dV _ ((p.takes.map (·.w)).getD i 0)
  rw[dq (·.w) p.takes i aO 0 hi']
  exact hd.v i hi'
 rok:=fun i hi=>by
  have hi':i<p.regs.length:=by simpa[rV]using hi
  show ay ((p.regs.map (·.w)).getD i 0)=true
  rw[dq (·.w) p.regs i cC 0 hi']
  exact(hp.rw i hi').1
 mok:=fun i hi=>by
  have hi':i<p.mems.length:=by simpa[rV]using hi
  show ay ((p.mems.map (·.w)).getD i 0)=true
  rw[dq (·.w) p.mems i bi 0 hi']
  exact(hp.mw i hi').1
 tok:=fun i hi=>by
  have hi':i<p.takes.length:=by simpa[rV]using hi
  show ay ((p.takes.map (·.w)).getD i 0)=true
  rw[dq (·.w) p.takes i aO 0 hi']
  exact(hp.tw i hi').1
theorem KM {c:Sc} {p:Pr} {s:Ps} (d d':List Int):∀(n:Nat) (e:Ex) (w:Int), gd e≤n→fq ⟨c.rw, c.mw, []⟩ e=some w→fq c e=some w∧bK p s d e=bK p s d' e:=by
 intro n
 induction n with
 | zero=>intro e w hd;cases e with | mk op name k w args=>rw[gd]at hd;omega
 | succ n ih =>
  intro e w hd hty
  obtain⟨ws, hws, hc⟩:=ja hty
  obtain⟨hl, hget⟩:=oU hws
  have hargs:∀i, i<e.args.length→fq c (e.args.getD i dE)=some (ws.getD i 0)∧bK p s d (e.args.getD i dE)=bK p s d' (e.args.getD i dE):=fun i hi=>ih _ _ (by have:=EF hi;omega) (hget i hi)
  have hL:∀(l:List Ex) (ws:List Int), ws.length=l.length→(∀i, i<l.length→fq c (l.getD i dE)=some (ws.getD i 0))→fq.tyL c l=some ws:=by
   intro l
   induction l with
   | nil=>intro ws h _;cases ws with | nil=>rfl | cons a r=>cases h
   | cons a r ihr =>
    intro ws h hh
    cases ws with
    | nil=>cases h
    | cons w0 wr =>
     have h0:fq c a=some w0:=hh 0 (by simp)
     have h1:=ihr wr (by simpa using h) (fun i hi=>hh (i+1) (by simpa using hi))
     rw[fq.tyL, h0, h1]
  have hmap:e.args.map (bK p s d)=e.args.map (bK p s d'):=by
   apply List.map_congr_left
   intro a ha
   obtain⟨i, hi, rfl⟩:=List.mem_iff_getElem.1 ha
   have:=(hargs i hi).2
   simpa[List.getD, List.getElem?_eq_getElem hi]using this
  have hws':=hL e.args ws hl (fun i hi=>(hargs i hi).1)
  refine⟨?_, ?_⟩
  ·cases e with
   | mk op name k w0 args =>
    rw[fq, hws']
    simp only at hc ⊢
    rcases hc with ⟨h1, h2, h3, h4, rfl⟩ | ⟨h1, h2, h3, h4, rfl⟩ | ⟨h1, h2, h3, h4, rfl⟩ | ⟨h1, h2, h2', h3, rfl⟩
    ·rw[if_pos h1, if_pos ⟨h2, h3, h4⟩]
    ·exact absurd h4 (by simp;omega)
    ·rw[if_neg (by omega), if_neg (by omega), if_pos h1, if_pos ⟨h2, h3, h4⟩]
    ·rw[if_neg h1, if_neg h2', if_neg h2, if_pos h3]
  ·rw[qH, qH p s d', hmap]
   have h18:e.op≠18:=by
    rcases hc with ⟨h1, h2, h3, h4, rfl⟩ | ⟨h1, h2, h3, h4, rfl⟩ | ⟨h1, h2, h3, h4, rfl⟩ | ⟨h1, h2, h2', h3, rfl⟩
    ·omega
    ·exact absurd h4 (by simp;omega)
    ·omega
    ·exact h2'
   rw[if_neg h18, if_neg h18]
theorem iM {p:Pr} {s:Ps} (hp:gW p) {i:Nat} (hi:i<p.takes.length) (d d':List Int):lP p s d (mY p i).when=lP p s d' (mY p i).when∧fq (rV p) (mY p i).when=some 1:=by
 obtain⟨h1, h2, h3⟩:=hp.tw i hi
 have h:=KM (c:=rV p) (p:=p) (s:=s) d d' 3 _ 1 h3 h2
 exact⟨by unfold lP;rw[h.2], h.1⟩
theorem qJ {w:Int} (h:ay w=true):dV 0 w:=by
 have:=bn.1 h
 exact⟨by omega, (az (by omega) (by omega)).1⟩
theorem OJ {p:Pr} (hp:gW p):CQ p (ww p) where
 l:=by simp[ww]
 v:=fun i hi=>by
  have e:(ww p).getD i 0=0:=by simp[ww, List.getD, List.getElem?_replicate];split<;>rfl
  rw[e];exact qJ (hp.tw i hi).1
theorem CT {p:Pr} {s:Ps} {hs:List Hd} (hp:gW p) (hh:CR p hs):CQ p (jG p s hs) where
 l:=by rw[jG, aq]
 v:=fun i hi=>by
  rw[jG, aC hi, rU]
  split
  ·rename_i h;exact hh.v i hi h.2
  ·exact qJ (hp.tw i hi).1
theorem lQ (p:Pr) (s:Ps) (hs:List Hd) (rs:List Bool):(aM p s hs rs).fires=fJ p s hs rs:=by
 unfold aM;split<;>simp_all
theorem kg (p:Pr) (s:Ps) (hs:List Hd) (rs:List Bool):(aM p s hs rs).pops.length=p.takes.length:=by
 unfold aM;split<;>simp[aq]
theorem gJ (p:Pr) (s:Ps) (hs:List Hd) (rs:List Bool):(aM p s hs rs).puts.length=p.puts.length:=by
 unfold aM;split<;>simp[aq]
theorem zz {p:Pr} {s:Ps} {d:List Int} {e:Ex} {w:Int} (ho:zw (rV p) p s d) (h:fq (rV p) e=some w) (hd:gd e≤3):(bK p s d e).2=w∧dV (bK p s d e).1 w∧ay w=true:=LP ho 3 e w hd h
theorem KN {p:Pr} {s:Ps} {d:List Int} (hp:gW p) (hs:qI p s) (hd:CQ p d):qI p (eS p s d) where
 rl:=by rw[eS];simp[aq]
 rv:=fun i hi=>by
  rw[eS];simp only;rw[aC hi]
  have h:=hp.rw i hi
  exact(zz (nN hp hs hd) h.2.2.1 h.2.2.2).2.1
 ml:=by rw[eS];simp[aq]
 mn:=fun i hi=>by
  rw[eS];simp only;rw[aC hi, Bb]
  split
  ·rw[List.length_set];exact hs.mn i hi
  ·exact hs.mn i hi
 mv:=fun i hi j hj=>by
  rw[eS]at hj ⊢;simp only at hj ⊢;rw[aC hi, Bb]at hj ⊢
  have h:=hp.mw i hi
  split at hj
  ·rename_i he
   rw[if_pos he]
   rw[List.length_set]at hj
   by_cases hm:(Int.tmod (bK p s d (mZ p i).addr).1 (mZ p i).words).toNat<(s.mems.getD i []).length
   ·rw[cu hm]
    split
    ·exact(zz (nN hp hs hd) h.2.2.2.2.1 h.2.2.2.2.2).2.1
    ·exact hs.mv i hi j hj
   ·rw[List.set_eq_of_length_le (by omega)]
    exact hs.mv i hi j hj
  ·rename_i he
   rw[if_neg he]
   exact hs.mv i hi j hj
theorem qe {p:Pr} {s:Ps} {hs:List Hd} {rs:List Bool} (hp:gW p) (hso:qI p s) (hh:CR p hs):qI p (aM p s hs rs).s:=by
 unfold aM
 split
 ·exact KN hp hso (CT hp hh)
 ·exact hso
theorem rX {p:Pr} {s:Ps} {hs:List Hd} {rs:List Bool} (hp:gW p) (hso:qI p s) (hh:CR p hs) {i:Nat} (hi:i<p.puts.length) (hhas:((aM p s hs rs).puts.getD i aP).has=true):dV ((aM p s hs rs).puts.getD i aP).v (ub p i).w:=by
 unfold aM at hhas ⊢
 split
 ·rename_i hf
  rw[if_pos hf]at hhas
  simp only at hhas ⊢
  rw[aC hi]at hhas ⊢
  unfold pT at hhas ⊢
  split
  ·have h:=hp.pw i hi
   exact(zz (nN hp hso (CT hp hh)) h.2.2.1 h.2.2.2).2.1
  ·rename_i hn;rw[if_neg hn]at hhas;cases hhas
 ·rename_i hf
  rw[if_neg hf]at hhas
  simp[List.getD, List.getElem?_replicate, hi]at hhas
end Go.Proofs.YtckgpflobhpnpaaGreat
