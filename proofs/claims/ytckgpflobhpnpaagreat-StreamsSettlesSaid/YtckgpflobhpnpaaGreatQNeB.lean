/-
  Circuits, plain data: what firing does, channel by channel.
-/
import Derived.Test.YtckgpflobhpnpaaGreatQNeA
namespace Go.Proofs.YtckgpflobhpnpaaGreat
open Go.RowKit
set_option linter.unusedVariables false
set_option linter.unusedSimpArgs false
structure Ch where
 name:ByteArray
 w:Int
 cap:Int
 frm:Int
 dst:Int
abbrev a6:Ch:=⟨e0, 0, 0, 0, 0⟩
structure Ci where
 procs:List Pr
 chans:List Ch
structure Ns where
 procs:List Ps
 chans:List (List Int)
def gK (c:Ch):List V:=[.str c.name, .int .i64 c.w, .int .i64 c.cap, .int .i64 c.frm, .int .i64 c.dst]
abbrev P9:Ns:=⟨[], []⟩
abbrev bj (c:Ci) (i:Nat):Pr:=c.procs.getD i af
abbrev cH (c:Ci) (n:Nat):Ch:=c.chans.getD n a6
abbrev zB (s:Ns) (i:Nat):Ps:=s.procs.getD i bI
abbrev lU (s:Ns) (n:Nat):List Int:=s.chans.getD n []
abbrev nP (p:Pr) (j:Nat):Nat:=(mY p j).chan.toNat
abbrev xn (p:Pr) (j:Nat):Nat:=(ub p j).chan.toNat
structure a8 (c:Ci):Prop where
 n1:1≤c.procs.length
 nl:c.procs.length≤100
 cl:c.chans.length≤100
 pr:∀i, i<c.procs.length→gW (bj c i)
 tk:∀i, i<c.procs.length→∀j, j<(bj c i).takes.length→0≤(mY (bj c i) j).chan∧(mY (bj c i) j).chan<c.chans.length∧(cH c (nP (bj c i) j)).w=(mY (bj c i) j).w∧(cH c (nP (bj c i) j)).dst=i
 pt:∀i, i<c.procs.length→∀j, j<(bj c i).puts.length→0≤(ub (bj c i) j).chan∧(ub (bj c i) j).chan<c.chans.length∧(cH c (xn (bj c i) j)).w=(ub (bj c i) j).w∧(cH c (xn (bj c i) j)).frm=i
 td:∀i, i<c.procs.length→∀j k, j<(bj c i).takes.length→k<(bj c i).takes.length→nP (bj c i) j=nP (bj c i) k→j=k
 pd:∀i, i<c.procs.length→∀j k, j<(bj c i).puts.length→k<(bj c i).puts.length→xn (bj c i) j=xn (bj c i) k→j=k
 cw:∀n, n<c.chans.length→ay (cH c n).w=true
 cp:∀n, n<c.chans.length→0≤(cH c n).cap
def di (l:List Int) (w:Int):Bool:=dG (fun i=>b8 (l.getD i 0) w) l.length
def je (c:Ci) (s:Ns) (n:Nat):Bool:=di (lU s n) (cH c n).w&&(!(decide (0≤(cH c n).frm)&&decide (0≤(cH c n).dst))||decide (((lU s n).length:Int)≤(cH c n).cap))
def cy (c:Ci) (s:Ns):Bool:=decide (s.procs.length=c.procs.length)&&decide (s.chans.length=c.chans.length)&&dG (fun i=>b5 (bj c i) (zB s i)) c.procs.length&&dG (je c s) c.chans.length
structure fa (c:Ci) (s:Ns):Prop where
 pl:s.procs.length=c.procs.length
 cl:s.chans.length=c.chans.length
 pv:∀i, i<c.procs.length→qI (bj c i) (zB s i)
 cv:∀n, n<c.chans.length→∀i, i<(lU s n).length→dV ((lU s n).getD i 0) (cH c n).w
 cc:∀n, n<c.chans.length→0≤(cH c n).frm→0≤(cH c n).dst→((lU s n).length:Int)≤(cH c n).cap
theorem Bf {l:List Int} {w:Int}:di l w=true↔∀i, i<l.length→dV (l.getD i 0) w:=by
 unfold di
 simp only[bL, wx]
theorem wz {c:Ci} {s:Ns}:cy c s=true↔fa c s:=by
 unfold cy je
 simp only[Bool.and_eq_true, decide_eq_true_eq, bL, Gl, Bf, Bool.or_eq_true, Bool.not_eq_true', Bool.and_eq_false_iff, decide_eq_false_iff_not]
 constructor
 ·rintro⟨⟨⟨h1, h2⟩, h3⟩, h4⟩
  refine⟨h1, h2, h3, fun n hn=>(h4 n hn).1, fun n hn ha hb=>?_⟩
  rcases(h4 n hn).2 with (h | h) | h
  ·exact absurd ha h
  ·exact absurd hb h
  ·exact h
 ·intro h
  refine⟨⟨⟨h.pl, h.cl⟩, h.pv⟩, fun n hn=>⟨h.cv n hn, ?_⟩⟩
  by_cases ha:0≤(cH c n).frm
  ·by_cases hb:0≤(cH c n).dst
   ·exact .inr (h.cc n hn ha hb)
   ·exact .inl (.inr hb)
  ·exact .inl (.inl ha)
def de (c:Ci) (s:Ns) (p j:Nat):Hd:=if 0<(lU s (nP (bj c p) j)).length then ⟨true, (lU s (nP (bj c p) j)).getD 0 0⟩else aP
def gz (c:Ci) (s:Ns) (p:Nat):List Hd:=tab (de c s p) (bj c p).takes.length
def cX (c:Ci) (s:Ns) (p j:Nat):Bool:=decide ((cH c (xn (bj c p) j)).dst=-1)||decide (((lU s (xn (bj c p) j)).length:Int)<(cH c (xn (bj c p) j)).cap)
def qK (c:Ci) (s:Ns) (p:Nat):List Bool:=tab (cX c s p) (bj c p).puts.length
def ab (c:Ci) (s:Ns) (p:Nat):Fi:=aM (bj c p) (zB s p) (gz c s p) (qK c s p)
def dj (c:Ci) (s:Ns) (p:Nat):Bool:=(ab c s p).fires
def uG (c:Ci) (s:Ns) (p:Int):Bool:=decide (0≤p)&&(decide (p<c.procs.length)&&dj c s p.toNat)
theorem qL (c:Ci) (s:Ns) (p:Nat):dj c s p=fJ (bj c p) (zB s p) (gz c s p) (qK c s p):=lQ _ _ _ _
theorem sa {c:Ci} {s:Ns} (hc:a8 c) (hs:fa c s) {p:Nat} (hp:p<c.procs.length):CR (bj c p) (gz c s p) where
 l:=by rw[gz, aq]
 v:=fun i hi hh=>by
  rw[gz, aC hi]at hh ⊢
  unfold de at hh ⊢
  split
  ·rename_i h0
   obtain⟨k1, k2, k3, k4⟩:=hc.tk p hp i hi
   have:=hs.cv (nP (bj c p) i) (by show(mY (bj c p) i).chan.toNat<_;omega) 0 h0
   rw[k3]at this
   exact this
  ·rename_i h0;rw[if_neg h0]at hh;cases hh
def ku (p:Pr) (f:Fi):Nat→List Nat
 | 0=>[]
 | k+1=>ku p f k++(if f.pops.getD k false=true then [nP p k]else [])
def mO (p:Pr) (f:Fi):Nat→List (Nat×Int)
 | 0=>[]
 | k+1=>mO p f k++(if (f.puts.getD k aP).has=true then [(xn p k, (f.puts.getD k aP).v)]else [])
def ax (c:Ci) (s:Ns) (w:Nat→Bool) (p:Nat):Bool:=w p&&dj c s p
def gf (c:Ci) (s:Ns) (w:Nat→Bool):Nat→List Nat
 | 0=>[]
 | p+1=>gf c s w p++(if ax c s w p=true then ku (bj c p) (ab c s p) (bj c p).takes.length else [])
def nQ (c:Ci) (s:Ns) (w:Nat→Bool):Nat→List (Nat×Int)
 | 0=>[]
 | p+1=>nQ c s w p++(if ax c s w p=true then mO (bj c p) (ab c s p) (bj c p).puts.length else [])
def ba (l:List (List Int)) (ev:List Nat):List (List Int):=ev.foldl (fun l n=>l.set n ((l.getD n []).drop 1)) l
def bq (l:List (List Int)) (ev:List (Nat×Int)):List (List Int):=ev.foldl (fun l e=>l.set e.1 (l.getD e.1 []++[e.2])) l
def eJ (c:Ci) (s:Ns) (p n:Nat):Bool:=decide (n∈ku (bj c p) (ab c s p) (bj c p).takes.length)
def uH (c:Ci) (s:Ns) (p n:Nat):List Int:=((mO (bj c p) (ab c s p) (bj c p).puts.length).filter (fun e=>e.1==n)).map (·.2)
def ie (c:Ci) (n:Nat):Nat:=(cH c n).dst.toNat
def fb (c:Ci) (n:Nat):Nat:=(cH c n).frm.toNat
def eu (c:Ci) (s:Ns) (w:Nat→Bool) (n:Nat):Nat:=if ax c s w (ie c n)=true∧eJ c s (ie c n) n=true then 1 else 0
def cP (c:Ci) (s:Ns) (w:Nat→Bool) (n:Nat):List Int:=if ax c s w (fb c n)=true then uH c s (fb c n) n else []
def eh (c:Ci) (s:Ns) (w:Nat→Bool) (n:Nat):List Int:=(lU s n).drop (eu c s w n)++cP c s w n
def cF (c:Ci) (s:Ns) (w:Nat→Bool) (p:Nat):Ps:=if ax c s w p=true then (ab c s p).s else zB s p
def bf (c:Ci) (s:Ns) (w:Nat→Bool):Ns:=⟨tab (cF c s w) c.procs.length, tab (eh c s w) c.chans.length⟩
theorem o6 {p:Pr} {f:Fi} {n:Nat}:∀{k:Nat}, n∈ku p f k→∃j, j<k∧f.pops.getD j false=true∧nP p j=n
 | 0, h=>by cases h
 | k+1, h=>by
  rw[ku, List.mem_append]at h
  rcases h with h | h
  ·obtain⟨j, h1, h2⟩:=o6 h;exact⟨j, by omega, h2⟩
  ·split at h
   ·rename_i hh;simp only[List.mem_singleton]at h;exact⟨k, by omega, hh, h.symm⟩
   ·cases h
theorem sd {p:Pr} {f:Fi} {e:Nat×Int}:∀{k:Nat}, e∈mO p f k→∃j, j<k∧(f.puts.getD j aP).has=true∧xn p j=e.1∧(f.puts.getD j aP).v=e.2
 | 0, h=>by cases h
 | k+1, h=>by
  rw[mO, List.mem_append]at h
  rcases h with h | h
  ·obtain⟨j, h1, h2⟩:=sd h;exact⟨j, by omega, h2⟩
  ·split at h
   ·rename_i hh;simp only[List.mem_singleton]at h;subst h;exact⟨k, by omega, hh, rfl, rfl⟩
   ·cases h
theorem cL (ev:List Nat):∀(l:List (List Int)), (ba l ev).length=l.length:=by
 induction ev with
 | nil=>intro l;rfl
 | cons n r ih=>intro l;show(ba _ r).length=_;rw[ih];simp
theorem cM (ev:List (Nat×Int)):∀(l:List (List Int)), (bq l ev).length=l.length:=by
 induction ev with
 | nil=>intro l;rfl
 | cons n r ih=>intro l;show(bq _ r).length=_;rw[ih];simp
theorem se (l:List (List Int)) (ev:List Nat) (n:Nat):ba l (ev++[n])=(ba l ev).set n (((ba l ev).getD n []).drop 1):=by simp[ba, List.foldl_append]
theorem iz (l:List (List Int)) (ev:List (Nat×Int)) (n:Nat) (v:Int):bq l (ev++[(n, v)])=(bq l ev).set n ((bq l ev).getD n []++[v]):=by simp[bq, List.foldl_append]
theorem nR (ev:List Nat):∀(l:List (List Int)) (n:Nat), n<l.length→(ba l ev).getD n []=(l.getD n []).drop (ev.count n):=by
 induction ev with
 | nil=>intro l n hn;simp[ba]
 | cons m r ih =>
  intro l n hn
  show(ba (l.set m _) r).getD n []=_
  rw[ih _ n (by simpa using hn), List.count_cons]
  by_cases e:m=n
  ·subst e
   rw[cu hn, if_pos rfl, List.drop_drop]
   simp[Nat.add_comm]
  ·by_cases hm:m<l.length
   ·rw[cu hm, if_neg e];simp[e]
   ·rw[List.set_eq_of_length_le (by omega)];simp[e]
theorem nU (ev:List (Nat×Int)):∀(l:List (List Int)) (n:Nat), n<l.length→(bq l ev).getD n []=l.getD n []++(ev.filter (fun e=>e.1==n)).map (·.2):=by
 induction ev with
 | nil=>intro l n hn;simp[bq]
 | cons m r ih =>
  intro l n hn
  show(bq (l.set m.1 _) r).getD n []=_
  rw[ih _ n (by simpa using hn)]
  by_cases e:m.1=n
  ·subst e
   rw[cu hn, if_pos rfl]
   simp
  ·by_cases hm:m.1<l.length
   ·rw[cu hm, if_neg e];simp[e]
   ·rw[List.set_eq_of_length_le (by omega)];simp[e]
section
variable {c:Ci} {s:Ns} {w:Nat→Bool}
theorem u9 (hc:a8 c) {p n:Nat} (hp:p<c.procs.length) {f:Fi} {k:Nat} (hk:k≤(bj c p).takes.length) (h:n∈ku (bj c p) f k):n<c.chans.length∧(cH c n).dst=p:=by
 obtain⟨j, h1, h2, rfl⟩:=o6 h
 obtain⟨k1, k2, k3, k4⟩:=hc.tk p hp j (by omega)
 exact⟨by show(mY (bj c p) j).chan.toNat<_;omega, k4⟩
theorem ET (hc:a8 c) {p:Nat} {e:Nat×Int} (hp:p<c.procs.length) {f:Fi} {k:Nat} (hk:k≤(bj c p).puts.length) (h:e∈mO (bj c p) f k):e.1<c.chans.length∧(cH c e.1).frm=p:=by
 obtain⟨j, h1, h2, h3, h4⟩:=sd h
 obtain⟨k1, k2, k3, k4⟩:=hc.pt p hp j (by omega)
 rw[← h3]
 exact⟨by show(ub (bj c p) j).chan.toNat<_;omega, k4⟩
theorem kK (hc:a8 c) {p:Nat} (n:Nat) (hp:p<c.procs.length) {f:Fi}:∀{k:Nat}, k≤(bj c p).takes.length→(ku (bj c p) f k).count n=if n∈ku (bj c p) f k then 1 else 0
 | 0, _=>by simp[ku]
 | k+1, hk=>by
  have ih:=kK hc n hp (f:=f) (k:=k) (by omega)
  rw[ku, List.count_append, ih]
  by_cases h1:f.pops.getD k false=true
  ·rw[if_pos h1]
   by_cases e:nP (bj c p) k=n
   ·have:n∉ku (bj c p) f k:=by
     intro hm
     obtain⟨j, g1, g2, g3⟩:=o6 hm
     have:=hc.td p hp j k (by omega) (by omega) (by rw[g3, e])
     omega
    rw[if_neg this, e, List.count_singleton_self, if_pos (List.mem_append_right _ (List.mem_singleton.2 rfl))]
   ·have e3:([nP (bj c p) k]).count n=0:=List.count_eq_zero.2 (by rw[List.mem_singleton];exact fun h=>e h.symm)
    rw[e3, Nat.add_zero]
    by_cases hm:n∈ku (bj c p) f k
    ·rw[if_pos hm, if_pos (List.mem_append_left _ hm)]
    ·rw[if_neg hm, if_neg]
     intro h
     rcases List.mem_append.1 h with h | h
     ·exact hm h
     ·exact e (List.mem_singleton.1 h).symm
  ·rw[if_neg h1, List.append_nil];rfl
theorem Bg {n:Nat}:∀{P:Nat}, n∈gf c s w P→∃p, p<P∧ax c s w p=true∧n∈ku (bj c p) (ab c s p) (bj c p).takes.length
 | 0, h=>by cases h
 | P+1, h=>by
  rw[gf, List.mem_append]at h
  rcases h with h | h
  ·obtain⟨j, h1, h2⟩:=Bg h;exact⟨j, by omega, h2⟩
  ·split at h
   ·rename_i hh;exact⟨P, by omega, hh, h⟩
   ·cases h
theorem wA (hc:a8 c) (n:Nat):∀{P:Nat}, P≤c.procs.length→(gf c s w P).count n=if ie c n<P then eu c s w n else 0
 | 0, _=>by simp[gf]
 | P+1, hP=>by
  have ih:=wA hc n (P:=P) (by omega)
  rw[gf, List.count_append, ih]
  by_cases hd:ie c n=P
  ·rw[if_neg (show ¬ie c n<P by omega), if_pos (show ie c n<P+1 by omega), eu, hd, Nat.zero_add]
   by_cases hf:ax c s w P=true
   ·rw[if_pos hf, kK hc n (by omega) (Nat.le_refl _)]
    simp[eJ, hf]
   ·rw[if_neg hf];simp[hf]
  ·have h0:(if ax c s w P=true then ku (bj c P) (ab c s P) (bj c P).takes.length else []).count n=0:=by
    split
    ·rw[kK hc n (by omega) (Nat.le_refl _), if_neg]
     intro hm
     have:=(u9 hc (by omega) (Nat.le_refl _) hm).2
     exact hd (by rw[ie, this];rfl)
    ·rfl
   rw[h0]
   by_cases h1:ie c n<P
   ·rw[if_pos h1, if_pos (show ie c n<P+1 by omega)];rfl
   ·rw[if_neg h1, if_neg (show ¬ie c n<P+1 by omega)]
theorem Ig (hc:a8 c) {p n:Nat} (h:eJ c s p n=true):p<c.procs.length:=by
 by_cases hp:p<c.procs.length
 ·exact hp
 ·unfold eJ at h
  have e:bj c p=af:=by rw[bj, List.getD, List.getElem?_eq_none (by omega)];rfl
  rw[e]at h
  simp[ku]at h
theorem KU (hc:a8 c) (n:Nat):(if ie c n<c.procs.length then eu c s w n else 0)=eu c s w n:=by
 split
 ·rfl
 ·rename_i h
  rw[eu, if_neg]
  rintro⟨_, h2⟩
  exact h (Ig hc h2)
theorem KV (hc:a8 c) {p n:Nat} (hp:p<c.procs.length) (hd:¬fb c n=p) (f:Fi):(mO (bj c p) f (bj c p).puts.length).filter (fun e=>e.1==n)=[]:=by
 rw[List.filter_eq_nil_iff]
 intro e he h
 have h1:e.1=n:=by simpa using h
 have:=(ET hc hp (Nat.le_refl _) he).2
 rw[h1]at this
 exact hd (by rw[fb, this];rfl)
theorem Bh (hc:a8 c) (n:Nat):∀{P:Nat}, P≤c.procs.length→((nQ c s w P).filter (fun e=>e.1==n)).map (·.2)=if fb c n<P then cP c s w n else []
 | 0, _=>by simp[nQ]
 | P+1, hP=>by
  have ih:=Bh hc n (P:=P) (by omega)
  rw[nQ, List.filter_append, List.map_append, ih]
  by_cases hd:fb c n=P
  ·rw[if_neg (show ¬fb c n<P by omega), if_pos (show fb c n<P+1 by omega), cP, hd]
   by_cases hf:ax c s w P=true
   ·rw[if_pos hf, if_pos hf];rfl
   ·rw[if_neg hf, if_neg hf];rfl
  ·have h0:(if ax c s w P=true then mO (bj c P) (ab c s P) (bj c P).puts.length else []).filter (fun e=>e.1==n)=[]:=by
    split
    ·exact KV hc (by omega) hd _
    ·rfl
   rw[h0]
   by_cases h1:fb c n<P
   ·rw[if_pos h1, if_pos (show fb c n<P+1 by omega)];exact List.append_nil _
   ·rw[if_neg h1, if_neg (show ¬fb c n<P+1 by omega)];rfl
theorem nW {p n:Nat} (hp:¬p<c.procs.length):uH c s p n=[]:=by
 have e:bj c p=af:=by rw[bj, List.getD, List.getElem?_eq_none (by omega)];rfl
 unfold uH
 rw[e];rfl
theorem KW (n:Nat):(if fb c n<c.procs.length then cP c s w n else [])=cP c s w n:=by
 split
 ·rfl
 ·rename_i h
  rw[cP]
  split
  ·rw[nW h]
  ·rfl
theorem yl (hc:a8 c) (hs:s.chans.length=c.chans.length):bq (ba s.chans (gf c s w c.procs.length)) (nQ c s w c.procs.length)=(bf c s w).chans:=by
 refine dt (d:=[]) ?_ (fun n hn=>?_)
 ·rw[cM, cL, bf, aq, hs]
 ·rw[cM, cL]at hn
  rw[nU _ _ _ (by rw[cL];exact hn), nR _ _ _ hn, wA hc n (Nat.le_refl _), Bh hc n (Nat.le_refl _), KU hc, KW]
  show _=(tab (eh c s w) c.chans.length).getD n []
  rw[aC (by omega)]
  rfl
end
end Go.Proofs.YtckgpflobhpnpaaGreat
