/-
  Circuits, plain data: what firing does, channel by channel.
-/
import Derived.Test.YtckgpflobhpnpaaGreatQNeA
namespace Go.Proofs.YtckgpflobhpnpaaGreat
open Go.RowKit
set_option linter.unusedVariables false
set_option linter.unusedSimpArgs false
structure Ch where
 name:ByteArray
 w:Int
 cap:Int
 frm:Int
 dst:Int
abbrev ck:Ch:=⟨e0, 0, 0, 0, 0⟩
structure Ci where
 procs:List Pr
 chans:List Ch
structure Ns where
 procs:List Ps
 chans:List (List Int)
def gO (c:Ch):List V:=[.str c.name, .int .i64 c.w, .int .i64 c.cap, .int .i64 c.frm, .int .i64 c.dst]
abbrev bc (c:Ci) (i:Nat):Pr:=c.procs.getD i aa
abbrev fT (c:Ci) (n:Nat):Ch:=c.chans.getD n ck
abbrev Bf (s:Ns) (i:Nat):Ps:=s.procs.getD i bB
abbrev xY (s:Ns) (n:Nat):List Int:=s.chans.getD n []
abbrev mH (p:Pr) (j:Nat):Nat:=(lO p j).chan.toNat
abbrev vL (p:Pr) (j:Nat):Nat:=(sT p j).chan.toNat
structure a6 (c:Ci):Prop where
 n1:1≤c.procs.length
 nl:c.procs.length≤100
 cl:c.chans.length≤100
 pr:∀i, i<c.procs.length→fq (bc c i)
 tk:∀i, i<c.procs.length→∀j, j<(bc c i).takes.length→0≤(lO (bc c i) j).chan∧(lO (bc c i) j).chan<c.chans.length∧(fT c (mH (bc c i) j)).w=(lO (bc c i) j).w∧(fT c (mH (bc c i) j)).dst=i
 pt:∀i, i<c.procs.length→∀j, j<(bc c i).puts.length→0≤(sT (bc c i) j).chan∧(sT (bc c i) j).chan<c.chans.length∧(fT c (vL (bc c i) j)).w=(sT (bc c i) j).w∧(fT c (vL (bc c i) j)).frm=i
 td:∀i, i<c.procs.length→∀j k, j<(bc c i).takes.length→k<(bc c i).takes.length→mH (bc c i) j=mH (bc c i) k→j=k
 pd:∀i, i<c.procs.length→∀j k, j<(bc c i).puts.length→k<(bc c i).puts.length→vL (bc c i) j=vL (bc c i) k→j=k
 cw:∀n, n<c.chans.length→ax (fT c n).w=true
 cp:∀n, n<c.chans.length→0≤(fT c n).cap
def zE (l:List Int) (w:Int):Bool:=dF (fun i=>dQ (l.getD i 0) w) l.length
structure j6 (c:Ci) (s:Ns):Prop where
 pl:s.procs.length=c.procs.length
 cl:s.chans.length=c.chans.length
 pv:∀i, i<c.procs.length→pU (bc c i) (Bf s i)
 cv:∀n, n<c.chans.length→∀i, i<(xY s n).length→dt ((xY s n).getD i 0) (fT c n).w
 cc:∀n, n<c.chans.length→0≤(fT c n).frm→0≤(fT c n).dst→((xY s n).length:Int)≤(fT c n).cap
theorem Gf {l:List Int} {w:Int}:zE l w=true↔∀i, i<l.length→dt (l.getD i 0) w:=by
 unfold zE
 simp only[cf, zA]
def cM (c:Ci) (s:Ns) (p j:Nat):Hd:=if 0<(xY s (mH (bc c p) j)).length then ⟨true, (xY s (mH (bc c p) j)).getD 0 0⟩else aP
def gf (c:Ci) (s:Ns) (p:Nat):List Hd:=tab (cM c s p) (bc c p).takes.length
def cU (c:Ci) (s:Ns) (p j:Nat):Bool:=decide ((fT c (vL (bc c p) j)).dst=-1)||decide (((xY s (vL (bc c p) j)).length:Int)<(fT c (vL (bc c p) j)).cap)
def u6 (c:Ci) (s:Ns) (p:Nat):List Bool:=tab (cU c s p) (bc c p).puts.length
def af (c:Ci) (s:Ns) (p:Nat):Fi:=ay (bc c p) (Bf s p) (gf c s p) (u6 c s p)
def gg (c:Ci) (s:Ns) (p:Nat):Bool:=(af c s p).fires
theorem sk (c:Ci) (s:Ns) (p:Nat):gg c s p=fp (bc c p) (Bf s p) (gf c s p) (u6 c s p):=pW _ _ _ _
theorem qZ {c:Ci} {s:Ns} (hc:a6 c) (hs:j6 c s) {p:Nat} (hp:p<c.procs.length):Ba (bc c p) (gf c s p) where
 l:=by rw[gf, ao]
 v:=fun i hi hh=>by
  rw[gf, aE hi]at hh ⊢
  unfold cM at hh ⊢
  split
  ·rename_i h0
   obtain⟨k1, k2, k3, k4⟩:=hc.tk p hp i hi
   have:=hs.cv (mH (bc c p) i) (by show(lO (bc c p) i).chan.toNat<_;omega) 0 h0
   rw[k3]at this
   exact this
  ·rename_i h0;rw[if_neg h0]at hh;cases hh
def kU (p:Pr) (f:Fi):Nat→List Nat
 | 0=>[]
 | k+1=>kU p f k++(if f.pops.getD k false=true then [mH p k]else [])
def mI (p:Pr) (f:Fi):Nat→List (Nat×Int)
 | 0=>[]
 | k+1=>mI p f k++(if (f.puts.getD k aP).has=true then [(vL p k, (f.puts.getD k aP).v)]else [])
def aA (c:Ci) (s:Ns) (w:Nat→Bool) (p:Nat):Bool:=w p&&gg c s p
def iT (c:Ci) (s:Ns) (w:Nat→Bool):Nat→List Nat
 | 0=>[]
 | p+1=>iT c s w p++(if aA c s w p=true then kU (bc c p) (af c s p) (bc c p).takes.length else [])
def oW (c:Ci) (s:Ns) (w:Nat→Bool):Nat→List (Nat×Int)
 | 0=>[]
 | p+1=>oW c s w p++(if aA c s w p=true then mI (bc c p) (af c s p) (bc c p).puts.length else [])
def br (l:List (List Int)) (ev:List Nat):List (List Int):=ev.foldl (fun l n=>l.set n ((l.getD n []).drop 1)) l
def bz (l:List (List Int)) (ev:List (Nat×Int)):List (List Int):=ev.foldl (fun l e=>l.set e.1 (l.getD e.1 []++[e.2])) l
def eu (c:Ci) (s:Ns) (p n:Nat):Bool:=decide (n∈kU (bc c p) (af c s p) (bc c p).takes.length)
def tg (c:Ci) (s:Ns) (p n:Nat):List Int:=((mI (bc c p) (af c s p) (bc c p).puts.length).filter (fun e=>e.1==n)).map (·.2)
def gP (c:Ci) (n:Nat):Nat:=(fT c n).dst.toNat
def eO (c:Ci) (n:Nat):Nat:=(fT c n).frm.toNat
def dX (c:Ci) (s:Ns) (w:Nat→Bool) (n:Nat):Nat:=if aA c s w (gP c n)=true∧eu c s (gP c n) n=true then 1 else 0
def cN (c:Ci) (s:Ns) (w:Nat→Bool) (n:Nat):List Int:=if aA c s w (eO c n)=true then tg c s (eO c n) n else []
def dY (c:Ci) (s:Ns) (w:Nat→Bool) (n:Nat):List Int:=(xY s n).drop (dX c s w n)++cN c s w n
def cO (c:Ci) (s:Ns) (w:Nat→Bool) (p:Nat):Ps:=if aA c s w p=true then (af c s p).s else Bf s p
def bD (c:Ci) (s:Ns) (w:Nat→Bool):Ns:=⟨tab (cO c s w) c.procs.length, tab (dY c s w) c.chans.length⟩
theorem nQ {p:Pr} {f:Fi} {n:Nat}:∀{k:Nat}, n∈kU p f k→∃j, j<k∧f.pops.getD j false=true∧mH p j=n
 | 0, h=>by cases h
 | k+1, h=>by
  rw[kU, List.mem_append]at h
  rcases h with h | h
  ·obtain⟨j, h1, h2⟩:=nQ h;exact⟨j, by omega, h2⟩
  ·split at h
   ·rename_i hh;simp only[List.mem_singleton]at h;exact⟨k, by omega, hh, h.symm⟩
   ·cases h
theorem ra {p:Pr} {f:Fi} {e:Nat×Int}:∀{k:Nat}, e∈mI p f k→∃j, j<k∧(f.puts.getD j aP).has=true∧vL p j=e.1∧(f.puts.getD j aP).v=e.2
 | 0, h=>by cases h
 | k+1, h=>by
  rw[mI, List.mem_append]at h
  rcases h with h | h
  ·obtain⟨j, h1, h2⟩:=ra h;exact⟨j, by omega, h2⟩
  ·split at h
   ·rename_i hh;simp only[List.mem_singleton]at h;subst h;exact⟨k, by omega, hh, rfl, rfl⟩
   ·cases h
theorem dZ (ev:List Nat):∀(l:List (List Int)), (br l ev).length=l.length:=by
 induction ev with
 | nil=>intro l;rfl
 | cons n r ih=>intro l;show(br _ r).length=_;rw[ih];simp
theorem cP (ev:List (Nat×Int)):∀(l:List (List Int)), (bz l ev).length=l.length:=by
 induction ev with
 | nil=>intro l;rfl
 | cons n r ih=>intro l;show(bz _ r).length=_;rw[ih];simp
theorem xZ (l:List (List Int)) (ev:List Nat) (n:Nat):br l (ev++[n])=(br l ev).set n (((br l ev).getD n []).drop 1):=by simp[br, List.foldl_append]
theorem ic (l:List (List Int)) (ev:List (Nat×Int)) (n:Nat) (v:Int):bz l (ev++[(n, v)])=(bz l ev).set n ((bz l ev).getD n []++[v]):=by simp[bz, List.foldl_append]
theorem mJ (ev:List Nat):∀(l:List (List Int)) (n:Nat), n<l.length→(br l ev).getD n []=(l.getD n []).drop (ev.count n):=by
 induction ev with
 | nil=>intro l n hn;simp[br]
 | cons m r ih =>
  intro l n hn
  show(br (l.set m _) r).getD n []=_
  rw[ih _ n (by simpa using hn), List.count_cons]
  by_cases e:m=n
  ·subst e
   rw[c8 hn, if_pos rfl, List.drop_drop]
   simp[Nat.add_comm]
  ·by_cases hm:m<l.length
   ·rw[c8 hm, if_neg e];simp[e]
   ·rw[List.set_eq_of_length_le (by omega)];simp[e]
theorem mK (ev:List (Nat×Int)):∀(l:List (List Int)) (n:Nat), n<l.length→(bz l ev).getD n []=l.getD n []++(ev.filter (fun e=>e.1==n)).map (·.2):=by
 induction ev with
 | nil=>intro l n hn;simp[bz]
 | cons m r ih =>
  intro l n hn
  show(bz (l.set m.1 _) r).getD n []=_
  rw[ih _ n (by simpa using hn)]
  by_cases e:m.1=n
  ·subst e
   rw[c8 hn, if_pos rfl]
   simp
  ·by_cases hm:m.1<l.length
   ·rw[c8 hm, if_neg e];simp[e]
   ·rw[List.set_eq_of_length_le (by omega)];simp[e]
section
variable {c:Ci} {s:Ns} {w:Nat→Bool}
theorem tK (hc:a6 c) {p n:Nat} (hp:p<c.procs.length) {f:Fi} {k:Nat} (hk:k≤(bc c p).takes.length) (h:n∈kU (bc c p) f k):n<c.chans.length∧(fT c n).dst=p:=by
 obtain⟨j, h1, h2, rfl⟩:=nQ h
 obtain⟨k1, k2, k3, k4⟩:=hc.tk p hp j (by omega)
 exact⟨by show(lO (bc c p) j).chan.toNat<_;omega, k4⟩
theorem C2 (hc:a6 c) {p:Nat} {e:Nat×Int} (hp:p<c.procs.length) {f:Fi} {k:Nat} (hk:k≤(bc c p).puts.length) (h:e∈mI (bc c p) f k):e.1<c.chans.length∧(fT c e.1).frm=p:=by
 obtain⟨j, h1, h2, h3, h4⟩:=ra h
 obtain⟨k1, k2, k3, k4⟩:=hc.pt p hp j (by omega)
 rw[← h3]
 exact⟨by show(sT (bc c p) j).chan.toNat<_;omega, k4⟩
theorem j7 (hc:a6 c) {p:Nat} (n:Nat) (hp:p<c.procs.length) {f:Fi}:∀{k:Nat}, k≤(bc c p).takes.length→(kU (bc c p) f k).count n=if n∈kU (bc c p) f k then 1 else 0
 | 0, _=>by simp[kU]
 | k+1, hk=>by
  have ih:=j7 hc n hp (f:=f) (k:=k) (by omega)
  rw[kU, List.count_append, ih]
  by_cases h1:f.pops.getD k false=true
  ·rw[if_pos h1]
   by_cases e:mH (bc c p) k=n
   ·have:n∉kU (bc c p) f k:=by
     intro hm
     obtain⟨j, g1, g2, g3⟩:=nQ hm
     have:=hc.td p hp j k (by omega) (by omega) (by rw[g3, e])
     omega
    rw[if_neg this, e, List.count_singleton_self, if_pos (List.mem_append_right _ (List.mem_singleton.2 rfl))]
   ·have e3:([mH (bc c p) k]).count n=0:=List.count_eq_zero.2 (by rw[List.mem_singleton];exact fun h=>e h.symm)
    rw[e3, Nat.add_zero]
    by_cases hm:n∈kU (bc c p) f k
    ·rw[if_pos hm, if_pos (List.mem_append_left _ hm)]
    ·rw[if_neg hm, if_neg]
     intro h
     rcases List.mem_append.1 h with h | h
     ·exact hm h
     ·exact e (List.mem_singleton.1 h).symm
  ·rw[if_neg h1, List.append_nil];rfl
theorem zF {n:Nat}:∀{P:Nat}, n∈iT c s w P→∃p, p<P∧aA c s w p=true∧n∈kU (bc c p) (af c s p) (bc c p).takes.length
 | 0, h=>by cases h
 | P+1, h=>by
  rw[iT, List.mem_append]at h
  rcases h with h | h
  ·obtain⟨j, h1, h2⟩:=zF h;exact⟨j, by omega, h2⟩
  ·split at h
   ·rename_i hh;exact⟨P, by omega, hh, h⟩
   ·cases h
theorem u7 (hc:a6 c) (n:Nat):∀{P:Nat}, P≤c.procs.length→(iT c s w P).count n=if gP c n<P then dX c s w n else 0
 | 0, _=>by simp[iT]
 | P+1, hP=>by
  have ih:=u7 hc n (P:=P) (by omega)
  rw[iT, List.count_append, ih]
  by_cases hd:gP c n=P
  ·rw[if_neg (show ¬gP c n<P by omega), if_pos (show gP c n<P+1 by omega), dX, hd, Nat.zero_add]
   by_cases hf:aA c s w P=true
   ·rw[if_pos hf, j7 hc n (by omega) (Nat.le_refl _)]
    simp[eu, hf]
   ·rw[if_neg hf];simp[hf]
  ·have h0:(if aA c s w P=true then kU (bc c P) (af c s P) (bc c P).takes.length else []).count n=0:=by
    split
    ·rw[j7 hc n (by omega) (Nat.le_refl _), if_neg]
     intro hm
     have:=(tK hc (by omega) (Nat.le_refl _) hm).2
     exact hd (by rw[gP, this];rfl)
    ·rfl
   rw[h0]
   by_cases h1:gP c n<P
   ·rw[if_pos h1, if_pos (show gP c n<P+1 by omega)];rfl
   ·rw[if_neg h1, if_neg (show ¬gP c n<P+1 by omega)]
theorem Gg (hc:a6 c) {p n:Nat} (h:eu c s p n=true):p<c.procs.length:=by
 by_cases hp:p<c.procs.length
 ·exact hp
 ·unfold eu at h
  have e:bc c p=aa:=by rw[bc, List.getD, List.getElem?_eq_none (by omega)];rfl
  rw[e]at h
  simp[kU]at h
theorem IA (hc:a6 c) (n:Nat):(if gP c n<c.procs.length then dX c s w n else 0)=dX c s w n:=by
 split
 ·rfl
 ·rename_i h
  rw[dX, if_neg]
  rintro⟨_, h2⟩
  exact h (Gg hc h2)
theorem IB (hc:a6 c) {p n:Nat} (hp:p<c.procs.length) (hd:¬eO c n=p) (f:Fi):(mI (bc c p) f (bc c p).puts.length).filter (fun e=>e.1==n)=[]:=by
 rw[List.filter_eq_nil_iff]
 intro e he h
 have h1:e.1=n:=by simpa using h
 have:=(C2 hc hp (Nat.le_refl _) he).2
 rw[h1]at this
 exact hd (by rw[eO, this];rfl)
theorem zG (hc:a6 c) (n:Nat):∀{P:Nat}, P≤c.procs.length→((oW c s w P).filter (fun e=>e.1==n)).map (·.2)=if eO c n<P then cN c s w n else []
 | 0, _=>by simp[oW]
 | P+1, hP=>by
  have ih:=zG hc n (P:=P) (by omega)
  rw[oW, List.filter_append, List.map_append, ih]
  by_cases hd:eO c n=P
  ·rw[if_neg (show ¬eO c n<P by omega), if_pos (show eO c n<P+1 by omega), cN, hd]
   by_cases hf:aA c s w P=true
   ·rw[if_pos hf, if_pos hf];rfl
   ·rw[if_neg hf, if_neg hf];rfl
  ·have h0:(if aA c s w P=true then mI (bc c P) (af c s P) (bc c P).puts.length else []).filter (fun e=>e.1==n)=[]:=by
    split
    ·exact IB hc (by omega) hd _
    ·rfl
   rw[h0]
   by_cases h1:eO c n<P
   ·rw[if_pos h1, if_pos (show eO c n<P+1 by omega)];exact List.append_nil _
   ·rw[if_neg h1, if_neg (show ¬eO c n<P+1 by omega)];rfl
theorem mL {p n:Nat} (hp:¬p<c.procs.length):tg c s p n=[]:=by
 have e:bc c p=aa:=by rw[bc, List.getD, List.getElem?_eq_none (by omega)];rfl
 unfold tg
 rw[e];rfl
theorem IC (n:Nat):(if eO c n<c.procs.length then cN c s w n else [])=cN c s w n:=by
 split
 ·rfl
 ·rename_i h
  rw[cN]
  split
  ·rw[mL h]
  ·rfl
theorem Ek (hc:a6 c) (hs:s.chans.length=c.chans.length):bz (br s.chans (iT c s w c.procs.length)) (oW c s w c.procs.length)=(bD c s w).chans:=by
 refine dW (d:=[]) ?_ (fun n hn=>?_)
 ·rw[cP, dZ, bD, ao, hs]
 ·rw[cP, dZ]at hn
  rw[mK _ _ _ (by rw[dZ];exact hn), mJ _ _ _ hn, u7 hc n (Nat.le_refl _), zG hc n (Nat.le_refl _), IA hc, IC]
  show _=(tab (dY c s w) c.chans.length).getD n []
  rw[aE (by omega)]
  rfl
end
end Go.Proofs.YtckgpflobhpnpaaGreat
