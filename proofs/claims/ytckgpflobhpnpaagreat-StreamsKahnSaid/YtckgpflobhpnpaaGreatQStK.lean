/-
  The laws of streams: any order of firing, plain laws.
-/
import Derived.Test.YtckgpflobhpnpaaGreatQNeU
namespace Go.Proofs.YtckgpflobhpnpaaGreat
open Go.RowKit
set_option linter.unusedVariables false
set_option linter.unusedSimpArgs false
theorem MR {sh:Int} {b:List Int}:JD (ac sh b):=by
 have key:∀e∈ah sh, 1≤e.puts.length∧e.puts.length≤2:=by
  rcases iY sh with h | h | h | h | h | h<;>rw[h]<;>simp
 intro p hp
 have hp':p<(ah sh).length:=by rw[show(ac sh b).procs.length=(ah sh).length from ao _ _]at hp;exact hp
 have e:bc (ac sh b) p=rD b (ah sh) p:=aE hp'
 have hl:(rD b (ah sh) p).puts.length=((ah sh).getD p cx).puts.length:=by
  show(tab _ _).length=_
  rw[ao]
 rw[e, hl, d9 _ _ hp']
 exact key _ (List.getElem_mem hp')
theorem Lh {sh:Int} {b:List Int}:∀n, n<(ac sh b).chans.length→-1≤(fT (ac sh b) n).frm:=by
 intro n hn
 have hn':n<kf sh:=by rw[show(ac sh b).chans.length=kf sh from ao _ _]at hn;exact hn
 rw[show fT (ac sh b) n=vl sh (ah sh) n from aE hn']
 exact(Bw _ _ _).1
theorem MS {sh:Int} {b bb:List Int} (h0:0≤sh) (h1:sh≤255) (hb:qe b) (hbb:qe bb):oX (ac sh b) (a7 (ac sh b) bb):=Mo (JI h0 h1 hb) hbb Lh
section
variable {c:Ci} {inp inp2:List (List Int)} {n n2:Nat} {cls cl2:List ByteArray}
theorem Li (h:oX c inp) (hc:a6 c):inp.length≤100000∧∀z∈inp, z.length≤100000:=by
 refine⟨by rw[h.l];have:=hc.cl;omega, fun z hz=>?_⟩
 obtain⟨i, hi, rfl⟩:=List.getElem_of_mem hz
 have:=h.sm i
 rw[d9 _ _ hi]at this
 omega
theorem Lj (h:oX c inp) (hn:n≤100):dG c inp (n:Int)=⟨bi c (dk c inp n), bu c (dk c inp n), 0⟩:=by
 unfold dG
 rw[kg (dP.2 h) (by omega), Int.toNat_natCast]
end
section
variable {c:Ci} {inp:List (List Int)} {u v:Uf} {k n s:Nat}
def eo (c:Ci) (u:Uf) (k:Nat):Uf:=if ft c u k=true then aj c u k else u
theorem il (h:ft c u k=true):eo c u k=aj c u k:=if_pos h
theorem yJ (h:¬ft c u k=true):eo c u k=u:=if_neg h
theorem Lk (hk:k<c.procs.length):((bu c (eo c v k)).getD k 0>(bu c v).getD k 0)↔ft c v k=true:=by
 rw[mV hk, mV hk]
 by_cases h:ft c v k=true
 ·rw[il h]
  refine⟨fun _=>h, fun _=>?_⟩
  show((if k=k then v.cnt k+1 else v.cnt k:Nat):Int)>_
  rw[if_pos rfl];omega
 ·rw[yJ h]
  exact⟨fun h2=>by omega, fun h2=>absurd h2 h⟩
theorem Hr (hc:a6 c) (h:UI c inp n v) (hk:k<c.procs.length) (hr:eP n v.cnt c.procs.length+s≤n*c.procs.length) (hn:v.cnt k<n) :
  UI c inp n (eo c v k)∧(decide ((bu c (eo c v k)).getD k 0>(bu c v).getD k 0)=true→eP n (eo c v k).cnt c.procs.length+(s+1)≤n*c.procs.length)∧(decide ((bu c (eo c v k)).getD k 0>(bu c v).getD k 0)=false→eo c v k=v∧rE c n v k=false):=by
 by_cases hcan:ft c v k=true
 ·have hcp:rE c n v k=true:=by rw[qa hn];exact hcan
  have hf:=mS hk hcp
  refine⟨by rw[il hcan];exact yo hc h hk hcp, fun _=>by rw[il hcan];omega, fun h2=>?_⟩
  exact absurd ((Lk hk).2 hcan) (of_decide_eq_false h2)
 ·rw[yJ hcan]
  refine⟨h, fun h2=>?_, fun _=>⟨rfl, ?_⟩⟩
  ·have:=of_decide_eq_true h2;omega
  ·rw[qa hn];exact Bool.eq_false_iff.2 hcan
theorem Ah {P f:Nat} {Q:Nat→Prop} (h:∀j, j<P→Q ((f+j)%P)):∀q, q<P→Q q:=by
 intro q hq
 have h1:(f+(q+(P-f%P))%P)%P=q:=by
  have h2:=Nat.mod_lt f (show 0<P by omega)
  have h3:=Nat.div_add_mod f P
  rw[Nat.add_mod_mod, show f+(q+(P-f%P))=P*(f / P)+(f%P+(q+(P-f%P))) by omega, Nat.mul_add_mod]
  rw[show f%P+(q+(P-f%P))=q+P by omega, Nat.add_mod_right, Nat.mod_eq_of_lt hq]
 have:=h ((q+(P-f%P))%P) (Nat.mod_lt _ (by omega))
 rwa [h1]at this
theorem MT {f:Int} {i P:Nat} (h:0≤f):Int.tmod (f+(i:Int)) (P:Int)=(((f.toNat+i)%P:Nat):Int):=by
 rw[show f+(i:Int)=((f.toNat+i:Nat):Int) by omega];rfl
theorem MU {s l:Nat}:Int.tmod (s:Int) (l:Int)=((s%l:Nat):Int):=rfl
theorem Hs (h:UI c inp n u) (hb:1000+n*c.procs.length≤100000) (i:Nat):((bi c u).getD i []).length≤9223372036854775807:=by
 by_cases hi:i<c.chans.length
 ·rw[show(bi c u).getD i []=u.l i from aE hi]
  have:=yp h i
  omega
 ·rw[show(bi c u).getD i []=[]from xV (by omega)]
  exact Nat.zero_le _
theorem Ai (hc:a6 c) (hin:oX c inp) (hn:n≤100) (h:UI c inp n u) (he:∀q, q<c.procs.length→rE c n u q=false):lq (dG c inp (n:Int)) ⟨bi c u, bu c u, 0⟩=true:=by
 rw[Lj hin hn, GW hc h he]
 rw[tX rfl (by rw[yC (zR _)];exact zR _)];exact decide_eq_true rfl
end
end Go.Proofs.YtckgpflobhpnpaaGreat
