/-
  Circuits, plain data: what the loops of a firing keep.
-/
import Derived.Test.YtckgpflobhpnpaaGreatQGrw
namespace Go.Proofs.YtckgpflobhpnpaaGreat
open Go.RowKit
set_option linter.unusedVariables false
set_option linter.unusedSimpArgs false
abbrev gg:Fi:=⟨false, ⟨[], []⟩, [], []⟩
def iV (k:Int) (q:Nat):Bool:=decide ((q:Int)=k)
def br (c:Ci) (cl:ByteArray) (q:Nat):Bool:=(bj c q).clock.toList==cl.toList
def GR (c:Ci) (s:Ns) (w:Nat→Bool) (p:Nat):Fi:=if w p=true then ab c s p else gg
section
variable {c:Ci} {s:Ns} {w:Nat→Bool} {i k:Nat}
theorem LW (h:(!w i)=true):ax c s w i=false:=by
 unfold ax;cases hw:w i
 ·rfl
 ·rw[hw]at h;cases h
theorem Iq (h:dj c s i=false):ax c s w i=false:=by unfold ax;rw[h, Bool.and_false]
theorem Ir (h:(!w i)=false) (h2:dj c s i=true):ax c s w i=true:=by
 unfold ax;cases hw:w i
 ·rw[hw]at h;cases h
 ·rw[h2];rfl
theorem OO (h:ax c s w i=true):w i=true∧dj c s i=true:=by unfold ax at h;simpa using h
theorem E3 (h:ax c s w i=false):zB s i=cF c s w i:=by unfold cF;rw[if_neg (by rw[h];simp)]
theorem It (h:ax c s w i=true):(ab c s i).s=cF c s w i:=by unfold cF;rw[if_pos h]
theorem LX (h:(!w i)=true):gg=GR c s w i:=by
 unfold GR;cases hw:w i
 ·rw[if_neg (by simp)]
 ·rw[hw]at h;cases h
theorem zI (h:(!w i)=false):ab c s i=GR c s w i:=by
 unfold GR;cases hw:w i
 ·rw[hw]at h;cases h
 ·rw[if_pos rfl]
theorem ve (h:ax c s w i=false):gf c s w (i+1)=gf c s w i:=by rw[gf, if_neg (by rw[h];simp), List.append_nil]
theorem Bm (h:ax c s w i=true):gf c s w (i+1)=gf c s w i++ku (bj c i) (ab c s i) (bj c i).takes.length:=by rw[gf, if_pos h]
theorem E4 (h:ax c s w i=false):nQ c s w (i+1)=nQ c s w i:=by rw[nQ, if_neg (by rw[h];simp), List.append_nil]
theorem Bn (h:ax c s w i=true):nQ c s w (i+1)=nQ c s w i++mO (bj c i) (ab c s i) (bj c i).puts.length:=by rw[nQ, if_pos h]
theorem Df {p:Pr} {f:Fi} (h:f.pops.getD k false=false):ku p f (k+1)=ku p f k:=by rw[ku, if_neg (by rw[h];simp), List.append_nil]
theorem zJ {p:Pr} {f:Fi} (h:f.pops.getD k false=true):ku p f (k+1)=ku p f k++[nP p k]:=by rw[ku, if_pos h]
theorem zK {p:Pr} {f:Fi} (h:(f.puts.getD k aP).has=false):mO p f (k+1)=mO p f k:=by rw[mO, if_neg (by rw[h];simp), List.append_nil]
theorem vf {p:Pr} {f:Fi} (h:(f.puts.getD k aP).has=true):mO p f (k+1)=mO p f k++[(xn p k, (f.puts.getD k aP).v)]:=by rw[mO, if_pos h]
theorem jW (l:List (List Int)) (a b:List Nat):ba (ba l a) b=ba l (a++b):=by simp[ba, List.foldl_append]
theorem jX (l:List (List Int)) (a b:List (Nat×Int)):bq (bq l a) b=bq l (a++b):=by simp[bq, List.foldl_append]
theorem vg {p:Pr} {f:Fi}:∀{k:Nat}, (mO p f k).length≤k
 | 0=>Nat.le_refl _
 | k+1=>by
  rw[mO, List.length_append]
  have:=vg (p:=p) (f:=f) (k:=k)
  split<;>simp<;>omega
theorem Bo (hc:a8 c):∀{P:Nat}, P≤c.procs.length→(nQ c s w P).length≤100*P
 | 0, _=>Nat.le_refl _
 | P+1, h=>by
  rw[nQ, List.length_append]
  have:=Bo hc (P:=P) (by omega)
  have h2:=vg (p:=bj c P) (f:=ab c s P) (k:=(bj c P).puts.length)
  have h3:=(hc.pr P (by omega)).pl
  split
  ·omega
  ·simp only[List.length_nil];omega
theorem E5 (ev:List (Nat×Int)) (l:List (List Int)) (n:Nat) (hn:n<l.length):((bq l ev).getD n []).length≤(l.getD n []).length+ev.length:=by
 rw[nU ev l n hn, List.length_append, List.length_map]
 have:=List.length_filter_le (fun e:Nat×Int=>e.1==n) ev
 omega
theorem K1 (ev:List Nat) (l:List (List Int)) (n:Nat) (hn:n<l.length):((ba l ev).getD n []).length≤(l.getD n []).length:=by
 rw[nR ev l n hn, List.length_drop];omega
theorem Nc (hc:a8 c) (hi:i<c.procs.length) (hk:k<(bj c i).takes.length) {f:Fi}:(gf c s w i++ku (bj c i) f k).count (nP (bj c i) k)=0:=by
 rw[List.count_eq_zero]
 intro hm
 rcases List.mem_append.1 hm with hm | hm
 ·obtain⟨p, h1, _, h3⟩:=Bg hm
  have h4:=(u9 hc (show p<c.procs.length by omega) (Nat.le_refl _) h3).2
  have h5:=(hc.tk i hi k hk).2.2.2
  have h6:((p:Nat):Int)=(i:Int):=h4.symm.trans h5
  omega
 ·obtain⟨j, h1, _, h3⟩:=o6 hm
  have:=hc.td i hi j k (by omega) hk h3
  omega
theorem Gr (hcan:dj c s i=true) (hk:k<(bj c i).takes.length) (hpop:(ab c s i).pops.getD k false=true):0<(lU s (nP (bj c i) k)).length:=by
 rw[qL]at hcan
 unfold ab at hpop
 rw[EP hcan]at hpop
 simp only at hpop
 rw[aC hk]at hpop
 unfold fJ at hcan
 rw[Bool.and_eq_true, bL]at hcan
 have h1:=hcan.1 k hk
 unfold kI at h1
 unfold pS at hpop
 rw[hpop]at h1
 simp only[Bool.not_true, Bool.or_false]at h1
 rw[gz, aC hk]at h1
 unfold de at h1
 split at h1
 ·assumption
 ·cases h1
theorem Bp (hc:a8 c) (hl:s.chans.length=c.chans.length) (hi:i<c.procs.length) (hcan:dj c s i=true) (hk:k<(bj c i).takes.length) (hpop:(ab c s i).pops.getD k false=true) :
  1≤((ba s.chans (gf c s w i++ku (bj c i) (ab c s i) k)).getD (nP (bj c i) k) []).length:=by
 have h1:=hc.tk i hi k hk
 rw[nR _ _ _ (by rw[hl];show((mY (bj c i) k).chan).toNat<_;omega), Nc hc hi hk]
 exact Gr hcan hk hpop
theorem E6 {m n:Nat} (hc:a8 c) (hl:s.chans.length=c.chans.length) (hsm:EY s 4294967296) (hi:i<c.procs.length) (hm:m≤(bj c i).puts.length) (hn:n<c.chans.length) :
  ((bq (ba s.chans (gf c s w c.procs.length)) (nQ c s w i++mO (bj c i) (ab c s i) m)).getD n []).length+1≤137438953472:=by
 have h1:=E5 (nQ c s w i++mO (bj c i) (ab c s i) m) (ba s.chans (gf c s w c.procs.length)) n (by rw[cL];omega)
 have h2:=K1 (gf c s w c.procs.length) s.chans n (by omega)
 have h3:(s.chans.getD n []).length≤4294967296:=hsm n
 have h4:=Bo hc (s:=s) (w:=w) (P:=i) (by omega)
 have h5:=vg (p:=bj c i) (f:=ab c s i) (k:=m)
 have h6:=(hc.pr i hi).pl
 have h7:=hc.nl
 rw[List.length_append]at h1
 omega
end
theorem Iu (p:Nat):iV (p:Int)=cm p:=funext fun q=>by
 unfold iV cm
 by_cases h:q=p
 ·rw[decide_eq_true h, decide_eq_true (by omega)]
 ·rw[decide_eq_false h, decide_eq_false (by omega)]
theorem Iv {c:Ci} {s:Ns} {w:Nat→Bool} (hc:a8 c) {k:Nat} (h:EY s k):EY (bf c s w) (k+1):=by
 intro n
 by_cases hn:n<c.chans.length
 ·rw[gY c s w hn]
  unfold eh
  rw[List.length_append, List.length_drop]
  have h1:(lU s n).length≤k:=h n
  have h2:(cP c s w n).length≤1:=by
   unfold cP;split
   ·exact Bi hc n
   ·simp
  omega
 ·have:lU (bf c s w) n=[]:=by show(tab _ _).getD n []=[];exact zy (by omega)
  rw[this];simp
def LZ (c:Ci) (s:Ns) (k:Int):Bool:=KZ (tab (ax c s (iV k)) c.procs.length) true
theorem wG {c:Ci} {s:Ns} {p:Int} (h:¬0≤p):uG c s p=false:=by unfold uG;rw[decide_eq_false h];rfl
theorem wH {c:Ci} {s:Ns} {p:Int} (h:¬p<c.procs.length):uG c s p=false:=by unfold uG;rw[decide_eq_false h, Bool.false_and, Bool.and_false]
theorem vi {c:Ci} {s:Ns} {p:Int} (h:0≤p) (h2:p<c.procs.length):uG c s p=(ab c s p.toNat).fires:=by unfold uG;rw[decide_eq_true h, decide_eq_true h2];rfl
def bo (c:Ci) (s:Ns) (b:Int):Ns×List Int×Int:=df c b.toNat s (List.replicate c.procs.length 0)
theorem E7 {f:Ch→Int} {c:Ci} {n:Int} (h:kh f c n=true):0≤n∧n<c.chans.length∧f (cH c n.toNat)=-1:=by unfold kh at h;simpa using h
def dW (c:Ci) (s:Ns) (n:Int) (ws:List Int):Ns×Int:=if kh (·.frm) c n=true∧di ws (cH c n.toNat).w=true then (⟨s.procs, s.chans.set n.toNat (lU s n.toNat++ws)⟩, 0)else (P9, 1)
theorem wI {c:Ci} {s:Ns} {n:Int} {ws:List Int} (h:¬kh (·.frm) c n=true):dW c s n ws=(P9, 1):=if_neg (fun q=>h q.1)
theorem wJ {c:Ci} {s:Ns} {n:Int} {ws:List Int} (h:¬di ws (cH c n.toNat).w=true):dW c s n ws=(P9, 1):=if_neg (fun q=>h q.2)
theorem sj {c:Ci} {s:Ns} {n:Int} {ws:List Int} (h:kh (·.frm) c n=true) (h2:di ws (cH c n.toNat).w=true):dW c s n ws=(⟨s.procs, s.chans.set n.toNat (lU s n.toNat++ws)⟩, 0):=if_pos ⟨h, h2⟩
theorem Iw {c:Ci} {s:Ns} {p:Nat} (h:p<c.procs.length):uG c s (p:Int)=dj c s p:=by
 rw[vi (by omega) (by omega)];rfl
theorem Ix {cnt:List Int} {p:Nat} {b d:Int} (h:∀z, 0≤cnt.getD z 0∧cnt.getD z 0≤b-d) (hd:0<d):∀z, 0≤(cnt.set p (cnt.getD p 0+1)).getD z 0∧(cnt.set p (cnt.getD p 0+1)).getD z 0≤b-(d-1):=by
 intro z
 by_cases hp:p<cnt.length
 ·rw[cu hp]
  have h1:=h p
  have h2:=h z
  split<;>omega
 ·rw[List.set_eq_of_length_le (by omega)]
  have h2:=h z
  omega
end Go.Proofs.YtckgpflobhpnpaaGreat
