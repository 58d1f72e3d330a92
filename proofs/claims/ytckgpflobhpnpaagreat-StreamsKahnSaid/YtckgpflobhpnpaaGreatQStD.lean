/-
  Settled networks, inputs that bytes describe, prefixes: plain laws of streams.
-/
import Derived.Test.YtckgpflobhpnpaaGreatQStC
namespace Go.Proofs.YtckgpflobhpnpaaGreat
open Go.RowKit
set_option linter.unusedVariables false
set_option linter.unusedSimpArgs false
section
variable {c:Ci} {s:Ns} {u:Uf} {p n:Nat}
def JA (c:Ci) (b:List Int) (q n:Nat):Nat:=if (fT c n).frm<0 then (b.getD q 0%8).toNat else 0
def inQ (c:Ci) (b:List Int):Nat→Nat
 | 0=>0
 | n+1=>if (fT c n).frm<0 then inQ c b n+(1+(b.getD (inQ c b n) 0%8).toNat)else inQ c b n
def sw (c:Ci) (b:List Int) (n:Nat):List Int:=tab (mR b (inQ c b n) (fT c n).w) (JA c b (inQ c b n) n)
def a7 (c:Ci) (b:List Int):List (List Int):=tab (sw c b) c.chans.length
theorem KW (c:Ci) {b:List Int} (hb:qe b) (q n:Nat):JA c b q n≤7:=by
 have:=eh hb q
 unfold JA;split<;>omega
theorem Mo (hc:a6 c) {b:List Int} (hb:qe b) (hf:∀n, n<c.chans.length→-1≤(fT c n).frm):oX c (a7 c b):=by
 have hat:∀n, n<c.chans.length→(a7 c b).getD n []=sw c b n:=fun n hn=>aE hn
 refine⟨ao _ _, fun n hn h=>?_, fun n hn i hi=>?_, fun n=>?_⟩
 ·rw[hat n hn]
  unfold sw JA
  rw[if_neg (by have:=hf n hn;omega)];rfl
 ·rw[hat n hn]at hi ⊢
  unfold sw at hi ⊢
  rw[ao]at hi
  rw[aE hi]
  have hw:=bf.1 (hc.cw n hn)
  exact KU hw.1 (by omega)
 ·by_cases hn:n<c.chans.length
  ·rw[hat n hn]
   unfold sw
   rw[ao]
   exact Nat.le_trans (KW c hb _ _) (by decide)
  ·rw[show(a7 c b).getD n []=[]from xV (by omega)];exact Nat.zero_le _
def dm:List Int→List Int→Nat
 | x::a, y::b=>if x=y then dm a b+1 else 0
 | _, _=>0
theorem GP:∀a b, dm a b≤a.length∧dm a b≤b.length
 | [], _=>⟨Nat.zero_le _, Nat.zero_le _⟩
 | x::a, []=>⟨Nat.zero_le _, Nat.zero_le _⟩
 | x::a, y::b=>by
  have:=GP a b
  rw[dm];split<;>simp<;>omega
theorem ym:∀a b:List Int, ¬dm a b<a.length↔a <+: b
 | [], b=>⟨fun _=>List.nil_prefix, fun _=>by simp⟩
 | x::a, []=>⟨fun h=>absurd (show dm (x::a) []<(x::a).length from Nat.succ_pos _) h, fun h=>by simp at h⟩
 | x::a, y::b=>by
  rw[List.cons_prefix_cons, ← ym a b, dm]
  split
  ·rename_i h;simp[h]
  ·rename_i h;simp[h]
theorem GQ:∀{a b:List Int} {i:Nat}, i<dm a b→a.getD i 0=b.getD i 0
 | [], _, _, h=>by simp[dm]at h
 | x::a, [], _, h=>by simp[dm]at h
 | x::a, y::b, i, h=>by
  rw[dm]at h
  split at h
  ·rename_i e
   cases i with
   | zero=>simpa using e
   | succ i =>
    have:=GQ (a:=a) (b:=b) (i:=i) (by omega)
    simpa using this
  ·omega
theorem GR:∀{a b:List Int}, dm a b<a.length→dm a b<b.length→a.getD (dm a b) 0≠b.getD (dm a b) 0
 | [], _, h, _=>by simp at h
 | x::a, [], _, h=>by simp at h
 | x::a, y::b, h, k=>by
  rw[dm]at h k ⊢
  split
  ·rename_i e
   rw[if_pos e]at h k
   have:=GR (a:=a) (b:=b) (by simpa using h) (by simpa using k)
   simpa using this
  ·rename_i e;simpa using e
theorem sx {a b:List Int} {i:Nat} (h1:i≤a.length) (h2:i≤b.length) (h:∀j, j<i→a.getD j 0=b.getD j 0) (h3:¬(i<a.length∧i<b.length∧a.getD i 0=b.getD i 0)):dm a b=i:=by
 rcases Nat.lt_trichotomy (dm a b) i with h4 | h4 | h4
 ·exact absurd (h _ h4) (GR (by omega) (by omega))
 ·exact h4
 ·have:=GP a b
  exact absurd ⟨by omega, by omega, GQ h4⟩ h3
def fc (a b:List (List Int)):Bool:=decide (a.length=b.length)&&dF (fun i=>!decide (dm (a.getD i []) (b.getD i [])<(a.getD i []).length)) a.length
theorem IM {a b:List (List Int)}:fc a b=true↔a.length=b.length∧∀i, i<a.length→a.getD i [] <+: b.getD i []:=by
 unfold fc
 rw[Bool.and_eq_true, decide_eq_true_eq, cf]
 refine⟨fun ⟨h1, h2⟩=>⟨h1, fun i hi=>(ym _ _).1 ?_⟩, fun ⟨h1, h2⟩=>⟨h1, fun i hi=>?_⟩⟩
 ·have:=h2 i hi;simpa using this
 ·have:=(ym _ _).2 (h2 i hi)
  rw[decide_eq_false this];rfl
theorem zR (a:List (List Int)):fc a a=true:=IM.2 ⟨rfl, fun i _=>List.prefix_refl _⟩
def tj (a b:List (List Int)):Nat→Nat→Int×Int×Bool
 | 0, _=>(0, 0, false)
 | m+1, i=>if dm (a.getD i []) (b.getD i [])<min (a.getD i []).length (b.getD i []).length then ((i:Int), (dm (a.getD i []) (b.getD i []):Int), true)else tj a b m (i+1)
def du (a b:List (List Int)):Int×Int×Bool:=tj a b (min a.length b.length) 0
theorem wZ {a b:List (List Int)}:∀(m i:Nat), (tj a b m i=(0, 0, false)∧∀j, i≤j→j<i+m→¬dm (a.getD j []) (b.getD j [])<min (a.getD j []).length (b.getD j []).length) ∨
  ∃j:Nat, i≤j∧j<i+m∧tj a b m i=((j:Int), (dm (a.getD j []) (b.getD j []):Int), true)∧dm (a.getD j []) (b.getD j [])<min (a.getD j []).length (b.getD j []).length∧∀k, i≤k→k<j→¬dm (a.getD k []) (b.getD k [])<min (a.getD k []).length (b.getD k []).length
 | 0, i=>.inl ⟨rfl, fun j h1 h2=>by omega⟩
 | m+1, i=>by
  rw[tj]
  split
  ·rename_i h
   exact .inr ⟨i, Nat.le_refl _, by omega, rfl, h, fun k h1 h2=>by omega⟩
  ·rename_i h
   rcases wZ (a:=a) (b:=b) m (i+1)with ⟨h1, h2⟩ | ⟨j, h1, h2, h3, h4, h5⟩
   ·refine .inl ⟨h1, fun j a1 a2=>?_⟩
    by_cases e:j=i
    ·subst e;exact h
    ·exact h2 j (by omega) (by omega)
   ·refine .inr ⟨j, by omega, by omega, h3, h4, fun k a1 a2=>?_⟩
    by_cases e:k=i
    ·subst e;exact h
    ·exact h5 k (by omega) a2
end
end Go.Proofs.YtckgpflobhpnpaaGreat
