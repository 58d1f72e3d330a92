/-
  Processes, plain law: equality of states and firings; more facts for the walks.
-/
import Derived.Test.YtckgpflobhpnpaaGreatQPrS
namespace Go.Proofs.YtckgpflobhpnpaaGreat
open Go.RowKit
set_option linter.unusedVariables false
set_option linter.unusedSimpArgs false
theorem si {α:Type} {a b:List α} {d:α} {k:Nat} (hl:a.length=b.length) (hk:¬k<a.length) (h:∀j, j<k→a.getD j d=b.getD j d):a=b :=
 dW (d:=d) hl (fun i hi=>h i (by omega))
theorem bq {α:Type} {f:Nat→α} {x:α} {enc:α→List V} {i:Nat} (h:i<137438953472) (hx:x=f i):(tab f i).length+([x].map enc).length≤137438953472∧(tab f i).map enc++[x].map enc=(tab f (i+1)).map enc:=by
 subst hx;exact qU h
section
variable {c:Sc} {p:Pr} {s:Ps} {hs:List Hd} {rs:List Bool} {d:List Int} {i:Nat}
theorem Gd (h:kR p s d (lP p i).enable=true):(s.mems.getD i []).set (Int.tmod (bC p s d (lP p i).addr).1 (lP p i).words).toNat (bC p s d (lP p i).data).1=zz p s d i:=(if_pos h).symm
theorem Jr (h:¬kR p s d (lP p i).enable=true):s.mems.getD i []=zz p s d i:=(if_neg h).symm
theorem Iz (hp:fq p) (hs:pU p s) (hd:A9 p d) (hi:i<p.mems.length):0≤Int.tmod (bC p s d (lP p i).addr).1 (lP p i).words∧Int.tmod (bC p s d (lP p i).addr).1 (lP p i).words<(s.mems.getD i []).length∧(lP p i).words≠0:=by
 have h:=hp.mw i hi
 obtain⟨v, hv⟩:=h.2.2.2.1.1
 have h0:=(xW (mC hp hs hd) hv h.2.2.2.1.2).2.1.1
 have hm:=hs.mn i hi
 rw[hm]
 exact⟨Int.tmod_nonneg _ h0, Int.tmod_lt_of_pos _ (by omega), by omega⟩
theorem u5 {b:Bool} (h:b=dF (jZ p s hs) i) (x:Bool) (hx:x=(b&&jZ p s hs i)):x=dF (jZ p s hs) (i+1):=by rw[hx, h];rfl
theorem Bd {a b:Bool} (h:b=(a&&dF (oT p s hs rs) i)) (x:Bool) (hx:x=(b&&oT p s hs rs i)):x=(a&&dF (oT p s hs rs) (i+1)):=by rw[hx, h, dF, Bool.and_assoc]
end
end Go.Proofs.YtckgpflobhpnpaaGreat
