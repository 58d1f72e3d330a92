/-
  Circuits, plain law: if firing ends, every order ends in the same state.
-/
import Derived.Test.YtckgpflobhpnpaaGreatQNeC
namespace Go.Proofs.YtckgpflobhpnpaaGreat
open Go.RowKit
set_option linter.unusedVariables false
set_option linter.unusedSimpArgs false
section
variable {c:Ci} {s e:Ns} {w:Nat→Bool}
theorem KY (hc:a8 c) {p:Nat} (hp:p<c.procs.length) (h1:dj c s p=true) (hw:w p=false):dj c (bf c s w) p=true:=by
 unfold dj;rw[(wB hc hp h1 hw).1];exact h1
def xo (c:Ci) (s:Ns):List Nat→Ns
 | []=>s
 | p::r=>xo c (bf c s (cm p)) r
def zD (c:Ci) (s:Ns):List Nat→Prop
 | []=>True
 | p::r=>p<c.procs.length∧dj c s p=true∧zD c (bf c s (cm p)) r
def M4 (c:Ci) (s:Ns):Prop:=∀p, p<c.procs.length→dj c s p=false
def gA (c:Ci) (s:Ns):Nat→Nat→Int
 | 0, _=>-1
 | n+1, k=>if dj c s k=true then k else gA c s n (k+1)
def d6 (c:Ci) (s:Ns):Int:=gA c s c.procs.length 0
theorem si:∀(n k:Nat), (gA c s n k=-1∧∀p, k≤p→p<k+n→dj c s p=false)∨∃p:Nat, gA c s n k=p∧k≤p∧p<k+n∧dj c s p=true
 | 0, k=>.inl ⟨rfl, fun p h1 h2=>by omega⟩
 | n+1, k=>by
  rw[gA]
  split
  ·rename_i h;exact .inr ⟨k, rfl, Nat.le_refl _, by omega, h⟩
  ·rename_i h
   rcases si n (k+1)with ⟨h1, h2⟩ | ⟨p, h1, h2, h3, h4⟩
   ·refine .inl ⟨h1, fun p g1 g2=>?_⟩
    by_cases e:p=k
    ·subst e;simpa using h
    ·exact h2 p (by omega) (by omega)
   ·exact .inr ⟨p, h1, by omega, by omega, h4⟩
theorem nY (c:Ci) (s:Ns):(d6 c s=-1∧M4 c s)∨∃p:Nat, d6 c s=p∧p<c.procs.length∧dj c s p=true:=by
 rcases si (c:=c) (s:=s) c.procs.length 0 with ⟨h1, h2⟩ | ⟨p, h1, h2, h3, h4⟩
 ·exact .inl ⟨h1, fun p hp=>h2 p (Nat.zero_le _) (by omega)⟩
 ·exact .inr ⟨p, h1, by omega, h4⟩
theorem Gm {k:Nat} (hk:k<c.procs.length) (h:¬dj c s k=true):gA c s (c.procs.length-k) k=gA c s (c.procs.length-(k+1)) (k+1):=by
 rw[show c.procs.length-k=(c.procs.length-(k+1))+1 by omega, gA, if_neg h]
theorem CY {k:Nat} (hk:k<c.procs.length) (h:dj c s k=true):gA c s (c.procs.length-k) k=k:=by
 rw[show c.procs.length-k=(c.procs.length-(k+1))+1 by omega, gA, if_pos h]
theorem CZ {k:Nat} (hk:¬k<c.procs.length):gA c s (c.procs.length-k) k=-1:=by
 rw[show c.procs.length-k=0 by omega, gA]
def df (c:Ci):Nat→Ns→List Int→Ns×List Int×Int
 | 0, s, cnt=>if d6 c s<0 then (s, cnt, 0)else (s, cnt, 7)
 | n+1, s, cnt=>if d6 c s<0 then (s, cnt, 0)else df c n (bf c s (cm (d6 c s).toNat)) (cnt.set (d6 c s).toNat (cnt.getD (d6 c s).toNat 0+1))
theorem lV {n:Nat} {cnt:List Int} (h:d6 c s<0):df c n s cnt=(s, cnt, 0):=by
 cases n with
 | zero=>rw[df, if_pos h]
 | succ n=>rw[df, if_pos h]
theorem lW {cnt:List Int} (h:¬d6 c s<0):df c 0 s cnt=(s, cnt, 7):=by rw[df, if_neg h]
theorem yq {n:Nat} {cnt:List Int} (h:¬d6 c s<0):df c (n+1) s cnt=df c n (bf c s (cm (d6 c s).toNat)) (cnt.set (d6 c s).toNat (cnt.getD (d6 c s).toNat 0+1)):=by
 rw[df, if_neg h]
def ig (w:Nat→Bool) (P:Nat):Nat→Bool:=fun q=>w q&&decide (q<P)
theorem zE (hs:fa c s):bf c s w=bf c s (ig w c.procs.length):=by
 have h1:∀q, q<c.procs.length→ax c s w q=ax c s (ig w c.procs.length) q:=fun q hq=>by unfold ax ig;simp[hq]
 have e1:tab (cF c s w) c.procs.length=tab (cF c s (ig w c.procs.length)) c.procs.length:=iL (fun q hq=>by unfold cF;rw[h1 q hq])
 have e2:tab (eh c s w) c.chans.length=tab (eh c s (ig w c.procs.length)) c.chans.length:=iL (fun n hn=>by
  unfold eh
  have g1:eu c s w n=eu c s (ig w c.procs.length) n:=by
   unfold eu
   by_cases hd:ie c n<c.procs.length
   ·rw[h1 _ hd]
   ·rw[Bk (by omega)];simp
  have g2:cP c s w n=cP c s (ig w c.procs.length) n:=by
   unfold cP
   by_cases hd:fb c n<c.procs.length
   ·rw[h1 _ hd]
   ·rw[nW hd];simp
  rw[g1, g2])
 unfold bf;rw[e1, e2]
end
end Go.Proofs.YtckgpflobhpnpaaGreat
