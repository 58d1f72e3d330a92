/-
  Circuits, plain data: what the loops of a firing keep.
-/
import Derived.Test.YtckgpflobhpnpaaGreatQGrw
namespace Go.Proofs.YtckgpflobhpnpaaGreat
open Go.RowKit
set_option linter.unusedVariables false
set_option linter.unusedSimpArgs false
abbrev qf:Fi:=⟨false, ⟨[], []⟩, [], []⟩
def bh (c:Ci) (cl:ByteArray) (q:Nat):Bool:=(bc c q).clock.toList==cl.toList
def Jv (c:Ci) (s:Ns) (w:Nat→Bool) (p:Nat):Fi:=if w p=true then af c s p else qf
section
variable {c:Ci} {s:Ns} {w:Nat→Bool} {i k:Nat}
theorem Me (h:(!w i)=true):aA c s w i=false:=by
 unfold aA;cases hw:w i
 ·rfl
 ·rw[hw]at h;cases h
theorem KD (h:gg c s i=false):aA c s w i=false:=by unfold aA;rw[h, Bool.and_false]
theorem KE (h:(!w i)=false) (h2:gg c s i=true):aA c s w i=true:=by
 unfold aA;cases hw:w i
 ·rw[hw]at h;cases h
 ·rw[h2];rfl
theorem NV (h:aA c s w i=true):w i=true∧gg c s i=true:=by unfold aA at h;simpa using h
theorem Jw (h:aA c s w i=false):Bf s i=cO c s w i:=by unfold cO;rw[if_neg (by rw[h];simp)]
theorem KF (h:aA c s w i=true):(af c s i).s=cO c s w i:=by unfold cO;rw[if_pos h]
theorem Mf (h:(!w i)=true):qf=Jv c s w i:=by
 unfold Jv;cases hw:w i
 ·rw[if_neg (by simp)]
 ·rw[hw]at h;cases h
theorem Gq (h:(!w i)=false):af c s i=Jv c s w i:=by
 unfold Jv;cases hw:w i
 ·rw[hw]at h;cases h
 ·rw[if_pos rfl]
theorem C9 (h:aA c s w i=false):iT c s w (i+1)=iT c s w i:=by rw[iT, if_neg (by rw[h];simp), List.append_nil]
theorem Gr (h:aA c s w i=true):iT c s w (i+1)=iT c s w i++kU (bc c i) (af c s i) (bc c i).takes.length:=by rw[iT, if_pos h]
theorem II (h:aA c s w i=false):oW c s w (i+1)=oW c s w i:=by rw[oW, if_neg (by rw[h];simp), List.append_nil]
theorem Gs (h:aA c s w i=true):oW c s w (i+1)=oW c s w i++mI (bc c i) (af c s i) (bc c i).puts.length:=by rw[oW, if_pos h]
theorem Bq {p:Pr} {f:Fi} (h:f.pops.getD k false=false):kU p f (k+1)=kU p f k:=by rw[kU, if_neg (by rw[h];simp), List.append_nil]
theorem x8 {p:Pr} {f:Fi} (h:f.pops.getD k false=true):kU p f (k+1)=kU p f k++[mH p k]:=by rw[kU, if_pos h]
theorem x9 {p:Pr} {f:Fi} (h:(f.puts.getD k aP).has=false):mI p f (k+1)=mI p f k:=by rw[mI, if_neg (by rw[h];simp), List.append_nil]
theorem tM {p:Pr} {f:Fi} (h:(f.puts.getD k aP).has=true):mI p f (k+1)=mI p f k++[(vL p k, (f.puts.getD k aP).v)]:=by rw[mI, if_pos h]
theorem sW (l:List (List Int)) (a b:List Nat):br (br l a) b=br l (a++b):=by simp[br, List.foldl_append]
theorem sX (l:List (List Int)) (a b:List (Nat×Int)):bz (bz l a) b=bz l (a++b):=by simp[bz, List.foldl_append]
theorem tN {p:Pr} {f:Fi}:∀{k:Nat}, (mI p f k).length≤k
 | 0=>Nat.le_refl _
 | k+1=>by
  rw[mI, List.length_append]
  have:=tN (p:=p) (f:=f) (k:=k)
  split<;>simp<;>omega
theorem zK (hc:a6 c):∀{P:Nat}, P≤c.procs.length→(oW c s w P).length≤100*P
 | 0, _=>Nat.le_refl _
 | P+1, h=>by
  rw[oW, List.length_append]
  have:=zK hc (P:=P) (by omega)
  have h2:=tN (p:=bc c P) (f:=af c s P) (k:=(bc c P).puts.length)
  have h3:=(hc.pr P (by omega)).pl
  split
  ·omega
  ·simp only[List.length_nil];omega
theorem Da (ev:List (Nat×Int)) (l:List (List Int)) (n:Nat) (hn:n<l.length):((bz l ev).getD n []).length≤(l.getD n []).length+ev.length:=by
 rw[mK ev l n hn, List.length_append, List.length_map]
 have:=List.length_filter_le (fun e:Nat×Int=>e.1==n) ev
 omega
theorem IJ (ev:List Nat) (l:List (List Int)) (n:Nat) (hn:n<l.length):((br l ev).getD n []).length≤(l.getD n []).length:=by
 rw[mJ ev l n hn, List.length_drop];omega
theorem KG (hc:a6 c) (hi:i<c.procs.length) (hk:k<(bc c i).takes.length) {f:Fi}:(iT c s w i++kU (bc c i) f k).count (mH (bc c i) k)=0:=by
 rw[List.count_eq_zero]
 intro hm
 rcases List.mem_append.1 hm with hm | hm
 ·obtain⟨p, h1, _, h3⟩:=zF hm
  have h4:=(tK hc (show p<c.procs.length by omega) (Nat.le_refl _) h3).2
  have h5:=(hc.tk i hi k hk).2.2.2
  have h6:((p:Nat):Int)=(i:Int):=h4.symm.trans h5
  omega
 ·obtain⟨j, h1, _, h3⟩:=nQ hm
  have:=hc.td i hi j k (by omega) hk h3
  omega
theorem Es (hcan:gg c s i=true) (hk:k<(bc c i).takes.length) (hpop:(af c s i).pops.getD k false=true):0<(xY s (mH (bc c i) k)).length:=by
 rw[sk]at hcan
 unfold af at hpop
 rw[CY hcan]at hpop
 simp only at hpop
 rw[aE hk]at hpop
 unfold fp at hcan
 rw[Bool.and_eq_true, cf]at hcan
 have h1:=hcan.1 k hk
 unfold jZ at h1
 unfold oU at hpop
 rw[hpop]at h1
 simp only[Bool.not_true, Bool.or_false]at h1
 rw[gf, aE hk]at h1
 unfold cM at h1
 split at h1
 ·assumption
 ·cases h1
theorem Gt (hc:a6 c) (hl:s.chans.length=c.chans.length) (hi:i<c.procs.length) (hcan:gg c s i=true) (hk:k<(bc c i).takes.length) (hpop:(af c s i).pops.getD k false=true) :
  1≤((br s.chans (iT c s w i++kU (bc c i) (af c s i) k)).getD (mH (bc c i) k) []).length:=by
 have h1:=hc.tk i hi k hk
 rw[mJ _ _ _ (by rw[hl];show((lO (bc c i) k).chan).toNat<_;omega), KG hc hi hk]
 exact Es hcan hk hpop
theorem IK {m n:Nat} (hc:a6 c) (hl:s.chans.length=c.chans.length) (hsm:M3 s 4294967296) (hi:i<c.procs.length) (hm:m≤(bc c i).puts.length) (hn:n<c.chans.length) :
  ((bz (br s.chans (iT c s w c.procs.length)) (oW c s w i++mI (bc c i) (af c s i) m)).getD n []).length+1≤137438953472:=by
 have h1:=Da (oW c s w i++mI (bc c i) (af c s i) m) (br s.chans (iT c s w c.procs.length)) n (by rw[dZ];omega)
 have h2:=IJ (iT c s w c.procs.length) s.chans n (by omega)
 have h3:(s.chans.getD n []).length≤4294967296:=hsm n
 have h4:=zK hc (s:=s) (w:=w) (P:=i) (by omega)
 have h5:=tN (p:=bc c i) (f:=af c s i) (k:=m)
 have h6:=(hc.pr i hi).pl
 have h7:=hc.nl
 rw[List.length_append]at h1
 omega
end
end Go.Proofs.YtckgpflobhpnpaaGreat
