/-
  Made processes, plain law: expressions that bytes describe.
-/
import Derived.Test.YtckgpflobhpnpaaGreatQPrQ
namespace Go.Proofs.YtckgpflobhpnpaaGreat
open Go.RowKit
set_option linter.unusedVariables false
set_option linter.unusedSimpArgs false
def qe (b:List Int):Prop:=∀x∈b, 0≤x∧x≤255
theorem eh {b:List Int} (h:qe b) (i:Nat):0≤b.getD i 0∧b.getD i 0≤255:=by
 by_cases hi:i<b.length
 ·simp only[List.getD, List.getElem?_eq_getElem hi, Option.getD_some]
  exact h _ (List.getElem_mem hi)
 ·simp[List.getD, List.getElem?_eq_none (Nat.le_of_not_lt hi)]
structure Sg where
 regs:List Int
 takes:List Int
 mems:List Mm
 data:Bool
def Sg.sc (s:Sg):Sc:=⟨s.regs, s.mems.map (·.w), if s.data then s.takes else []⟩
def en (v w:Int):Ex:=⟨1, e0, ⟨v%2^w.toNat, e0⟩, ⟨w, e0⟩, []⟩
def Eh (i:Nat):Ex:=⟨16, e0, ⟨i, e0⟩, dN, []⟩
def F0 (i:Nat):Ex:=⟨18, e0, ⟨i, e0⟩, dN, []⟩
def eD (f:Nat→Ex) (w:Int) (l:List Int):Nat→List Ex
 | 0=>[]
 | k+1=>eD f w l k++(if l.getD k 0=w then [f k]else [])
def cB (s:Sg) (w:Int):List Ex:=eD Eh w s.regs s.regs.length++(if s.data then eD F0 w s.takes s.takes.length else [])
def aZ (s:Sg) (w b:Int):Ex:=if (cB s w).length=0∨b%4=0 then en (b / 4) w else (cB s w).getD (b / 4%(cB s w).length).toNat dE
def oS (l:List Mm) (w:Int):Nat→Nat→Option Nat
 | 0, _=>none
 | n+1, k=>if (l.getD k ba).w=w then some k else oS l w n (k+1)
def iQ (k:Int):Int:=[2, 3, 4, 5, 6, 7, 10, 8, 9, 11].getD (k-4).toNat 0
def se (y w:Int):Int:=let o:=iQ (y%14);if (o=8∨o=9)∧w>1 then 5 else if o=11∧w=1 then 3 else o
def ju (y w:Int):List Int:=let o:=iQ (y%14)
 if o=2 then [w]else if o=10 then [1, w, w]else if o=8∨o=9 then (if w>1 then [w, w]else [1+y / 14%3, 1+y / 14%3])else if o=11 then (if w=1 then [w, w]else [w-1, 1])else [w, w]
def bo (t:Nat→Int→Ex×Nat):List Int→Nat→List Ex×Nat
 | [], i=>([], i)
 | w::r, i=>((t i w).1::(bo t r (t i w).2).1, (bo t r (t i w).2).2)
def bv (s:Sg) (t:Nat→Int→Ex×Nat) (w b:Int) (i:Nat):Ex×Nat :=
 match (if b%3=0 then oS s.mems w s.mems.length 0 else none)with
 | some m=>let x:=t i (1+b / 3%3);(⟨17, e0, ⟨m, e0⟩, dN, [x.1]⟩, x.2)
 | none=>if b%3=1∧w>1 then let x:=t i (w-1);(⟨13, e0, dN, ⟨w, e0⟩, [x.1]⟩, x.2)
  else let x:=t i (w+b / 3%2);(⟨12, e0, ⟨b / 3%2, e0⟩, ⟨w, e0⟩, [x.1]⟩, x.2)
def am (s:Sg) (b:List Int):Nat→Nat→Int→Ex×Nat
 | 0, i, w=>(aZ s w (b.getD i 0 / 14), i+1)
 | d+1, i, w =>
  let y:=b.getD i 0
  if d=0∨y%14<2 then (aZ s w (y / 14), i+1)
  else if y%14=2∨y%14=3 then bv s (am s b d) w (y / 14) (i+1)
  else (⟨se y w, e0, dN, dN, (bo (am s b d) (ju y w) (i+1)).1⟩, (bo (am s b d) (ju y w) (i+1)).2)
theorem CR {s:Sg} {w:Int} {acc:List Ex} {j:Nat} (h:acc=eD Eh w s.regs s.regs.length++eD F0 w s.takes j) (h0:s.data=false→j=0) (h1:s.data=true→j=s.takes.length):acc=cB s w:=by
 rw[h];unfold cB
 cases hs:s.data
 ·rw[h0 hs];simp[eD]
 ·rw[h1 hs];simp
theorem nJ {f:Nat→Ex} {w:Int} {l:List Int} {k:Nat} (h:l.getD k 0=w):eD f w l k++[f k]=eD f w l (k+1):=by rw[eD, if_pos h]
theorem qQ {f:Nat→Ex} {w:Int} {l:List Int} {k:Nat} (h:¬l.getD k 0=w):eD f w l k=eD f w l (k+1):=by rw[eD, if_neg h, List.append_nil]
theorem Iq (s:Sg) (w:Int):(cB s w).length≤s.regs.length+s.takes.length:=by
 have key:∀(f:Nat→Ex) (l:List Int) (k:Nat), (eD f w l k).length≤k:=by
  intro f l k
  induction k with
  | zero=>simp[eD]
  | succ k ih=>rw[eD];simp only[List.length_append];split<;>simp<;>omega
 unfold cB
 have h1:=key Eh s.regs s.regs.length
 have h2:=key F0 s.takes s.takes.length
 rw[List.length_append]
 split
 ·omega
 ·simp;omega
theorem sf {f:Nat→Ex} {w:Int} {l:List Int} {e:Ex}:∀(k:Nat), e∈eD f w l k→∃i, i<k∧e=f i∧l.getD i 0=w
 | 0, h=>by cases h
 | k+1, h=>by
  rw[eD, List.mem_append]at h
  rcases h with h | h
  ·obtain⟨i, h1, h2⟩:=sf k h;exact⟨i, by omega, h2⟩
  ·split at h
   ·rename_i hw
    simp only[List.mem_singleton]at h
    exact⟨k, by omega, h, hw⟩
   ·cases h
theorem Kt {c:Sc} {v w:Int} (hw:ax w=true):e9 c (en v w)=some w:=by
 have h:=bf.1 hw
 unfold en
 rw[e9, e9.tyL]
 simp only
 rw[if_neg (by decide), if_neg (by decide), if_neg (by decide)]
 have hm:=tI (x:=v) (w:=w) (by omega) (by omega)
 have e:bj 1 [] (v%2^w.toNat) w=w:=by
  show(if ax w=false∨v%2^w.toNat<0∨ap w<v%2^w.toNat then 0 else w)=w
  rw[if_neg]
  rintro(h1 | h1 | h1)
  ·rw[hw]at h1;cases h1
  ·have:=hm.1;omega
  ·have:=hm.2;omega
 have ho:oP 1 [] (v%2^w.toNat) w=true:=by
  unfold oP
  rw[e, hw]
  rfl
 rw[if_pos ho, e]
theorem F1 {s:Sg} {w:Int} {e:Ex} (h:e∈cB s w):e9 s.sc e=some w∧e.args=[]∧fS e=1:=by
 unfold cB at h
 rw[List.mem_append]at h
 rcases h with h | h
 ·obtain⟨i, h1, rfl, h2⟩:=sf _ h
  refine⟨?_, rfl, rfl⟩
  unfold Eh
  rw[e9, e9.tyL]
  simp only
  rw[if_pos trivial, if_pos ⟨by trivial, by simp, by show((i:Nat):Int)<(s.regs.length:Int);omega⟩]
  show some (s.regs.getD (i:Int).toNat 0)=some w
  rw[Int.toNat_natCast, h2]
 ·split at h
  ·rename_i hd
   obtain⟨i, h1, rfl, h2⟩:=sf _ h
   refine⟨?_, rfl, rfl⟩
   have ht:s.sc.tw=s.takes:=by show(if s.data then s.takes else [])=s.takes;rw[if_pos hd]
   unfold F0
   rw[e9, e9.tyL]
   simp only
   rw[if_neg (by decide), if_pos trivial, ht, if_pos ⟨by trivial, by simp, by omega⟩, Int.toNat_natCast, h2]
  ·cases h
theorem CT {s:Sg} {w b:Int} (hw:ax w=true) (hb:0≤b):e9 s.sc (aZ s w b)=some w∧(aZ s w b).args=[]∧fS (aZ s w b)=1:=by
 unfold aZ
 split
 ·exact⟨Kt hw, rfl, rfl⟩
 ·rename_i hn
  simp only[not_or]at hn
  have h1:=Int.emod_lt_of_pos (b / 4) (show(0:Int)<((cB s w).length:Int) by omega)
  have h0:=Int.emod_nonneg (b / 4) (show((cB s w).length:Int)≠0 by omega)
  exact F1 (nI (by omega))
theorem wH {l:List Mm} {w:Int}:∀{n k m:Nat}, oS l w n k=some m→k≤m∧m<k+n∧(l.getD m ba).w=w
 | 0, k, m, h=>by cases h
 | n+1, k, m, h=>by
  rw[oS]at h
  split at h
  ·rename_i hw;cases h;exact⟨by omega, by omega, hw⟩
  ·obtain⟨h1, h2, h3⟩:=wH h;exact⟨by omega, by omega, h3⟩
theorem zx {t:Nat→Int→Ex×Nat}:∀(ws:List Int) (i:Nat), (bo t ws i).1.length=ws.length
 | [], i=>rfl
 | w::r, i=>by rw[bo];simp[zx r]
theorem CU {c:Sc} {t:Nat→Int→Ex×Nat}:∀(ws:List Int) (i:Nat), (∀w∈ws, ∀i, e9 c (t i w).1=some w)→e9.tyL c (bo t ws i).1=some ws
 | [], i, _=>rfl
 | w::r, i, h=>by
  rw[bo, e9.tyL, h w (by simp) i, CU r _ (fun w hw=>h w (by simp[hw]))]
theorem zy {t:Nat→Int→Ex×Nat} {n:Nat}:∀(ws:List Int) (i:Nat), (∀w∈ws, ∀i, fS (t i w).1≤n)→fS.depL (bo t ws i).1≤n
 | [], i, _=>by rw[bo, fS.depL];exact Nat.zero_le _
 | w::r, i, h=>by
  rw[bo, fS.depL]
  have h1:=h w (by simp) i
  have h2:=zy r (t i w).2 (fun w hw=>h w (by simp[hw]))
  omega
theorem uZ {t:Nat→Int→Ex×Nat} {n:Nat}:∀(ws:List Int) (i:Nat), (∀w∈ws, ∀i, i≤(t i w).2∧(t i w).2≤i+n)→i≤(bo t ws i).2∧(bo t ws i).2≤i+n*ws.length
 | [], i, _=>⟨Nat.le_refl _, Nat.le_add_right _ _⟩
 | w::r, i, h=>by
  rw[bo]
  have h1:=h w (by simp) i
  have h2:=uZ r (t i w).2 (fun w hw=>h w (by simp[hw]))
  have:n*(w::r).length=n*r.length+n:=by rw[List.length_cons, Nat.mul_succ]
  show i≤(bo t r (t i w).2).2∧(bo t r (t i w).2).2≤i+n*(w::r).length
  omega
theorem Ei {k:Int} (h:4≤k) (h2:k<14):iQ k=2∨iQ k=3∨iQ k=4∨iQ k=5∨iQ k=6∨iQ k=7∨iQ k=10∨iQ k=8∨iQ k=9∨iQ k=11:=by
 have:k=4∨k=5∨k=6∨k=7∨k=8∨k=9∨k=10∨k=11∨k=12∨k=13:=by omega
 rcases this with rfl | rfl | rfl | rfl | rfl | rfl | rfl | rfl | rfl | rfl<;>decide
theorem Al {op:Int} {w k v:Int} (hop:op=3∨op=4∨op=5∨op=6∨op=7) (hw:ax w=true):oP op [w, w] k v=true∧bj op [w, w] k v=w:=by
 have e:∀op, bj op [w, w] k v=w∨True:=fun _=>.inr trivial
 have ha:bV [w, w]=w:=by unfold bV;rw[if_neg (by simp)];rfl
 have hv:bj op [w, w] k v=bV [w, w]:=by rcases hop with rfl | rfl | rfl | rfl | rfl<;>rfl
 have hA:bH op=2:=by rcases hop with rfl | rfl | rfl | rfl | rfl<;>decide
 refine⟨?_, by rw[hv, ha]⟩
 unfold oP
 rw[hv, ha, hA]
 simp[hw]
theorem F2 {y w:Int} (hk:4≤y%14) (h0:0≤y) (hw:1≤w) (hw8:w≤8):oP (se y w) (ju y w) 0 0=true∧bj (se y w) (ju y w) 0 0=w∧(se y w≠16∧se y w≠18∧se y w≠17)∧(∀v∈ju y w, 1≤v∧(v≤w∨v≤3))∧(ju y w).length≤3:=by
 have hf:ax w=true:=bf.2 ⟨hw, hw8⟩
 have hc:=Ei hk (by omega)
 unfold se ju
 simp only
 have hn:(1:Int)≤1+y / 14%3∧1+y / 14%3≤3:=by omega
 generalize hv:1+y / 14%3=v at *
 have hfv:ax v=true:=bf.2 ⟨hn.1, by omega⟩
 rcases hc with h | h | h | h | h | h | h | h | h | h<;>rw[h]<;>simp only[Int.reduceEq, false_or, or_false, false_and, if_false, true_and, if_true, or_true, true_or]
 ·refine⟨?_, rfl, by decide, by simp;omega, by simp⟩
  show(decide (([w].length:Int)=bH 2)&&[w].all ax&&ax w)=true
  simp[hf];decide
 ·exact⟨(Al (by simp) hf).1, (Al (by simp) hf).2, by decide, by simp;omega, by simp⟩
 ·exact⟨(Al (by simp) hf).1, (Al (by simp) hf).2, by decide, by simp;omega, by simp⟩
 ·exact⟨(Al (by simp) hf).1, (Al (by simp) hf).2, by decide, by simp;omega, by simp⟩
 ·exact⟨(Al (by simp) hf).1, (Al (by simp) hf).2, by decide, by simp;omega, by simp⟩
 ·exact⟨(Al (by simp) hf).1, (Al (by simp) hf).2, by decide, by simp;omega, by simp⟩
 ·have e:bj 10 [1, w, w] 0 0=w:=by
   show(if (1:Int)≠1∨w≠w then 0 else w)=w
   rw[if_neg (by simp)]
  refine⟨?_, e, by decide, by simp;omega, by simp⟩
  unfold oP
  rw[e]
  simp[hf];decide
 ·split
  ·exact⟨(Al (by simp) hf).1, (Al (by simp) hf).2, by decide, by simp;omega, by simp⟩
  ·have hw1:w=1:=by omega
   subst hw1
   have ha:bV [v, v]=v:=by unfold bV;rw[if_neg (by simp)];rfl
   have e:bj 8 [v, v] 0 0=1:=by
    show min (bV [v, v]) 1=1
    rw[ha];omega
   refine⟨?_, e, by decide, by simp;omega, by simp⟩
   unfold oP
   rw[e]
   simp[hfv];decide
 ·split
  ·exact⟨(Al (by simp) hf).1, (Al (by simp) hf).2, by decide, by simp;omega, by simp⟩
  ·have hw1:w=1:=by omega
   subst hw1
   have ha:bV [v, v]=v:=by unfold bV;rw[if_neg (by simp)];rfl
   have e:bj 9 [v, v] 0 0=1:=by
    show min (bV [v, v]) 1=1
    rw[ha];omega
   refine⟨?_, e, by decide, by simp;omega, by simp⟩
   unfold oP
   rw[e]
   simp[hfv];decide
 ·split
  ·exact⟨(Al (by simp) hf).1, (Al (by simp) hf).2, by decide, by simp;omega, by simp⟩
  ·have e:bj 11 [w-1, 1] 0 0=w:=by
    show(w-1)+1=w
    omega
   have hf1:ax (w-1)=true:=bf.2 ⟨by omega, by omega⟩
   refine⟨?_, e, by decide, by simp;omega, by simp⟩
   unfold oP
   rw[e]
   simp[hf, hf1];decide
theorem u1 {s:Sg} {b:List Int} (hb:qe b):∀(d i:Nat) (w:Int), d≤3→1≤w→w+d≤8→e9 s.sc (am s b d i w).1=some w∧fS (am s b d i w).1≤max d 1∧i≤(am s b d i w).2∧(am s b d i w).2≤i+4^d:=by
 intro d
 induction d with
 | zero =>
  intro i w h3 h1 h2
  have hy:=eh hb i
  obtain⟨q1, q2, q3⟩:=CT (s:=s) (w:=w) (b:=b.getD i 0 / 14) (bf.2 ⟨h1, by omega⟩) (by omega)
  rw[am]
  exact⟨q1, by show fS (aZ s w (b.getD i 0 / 14))≤1;omega, by show i≤i+1;omega, by show i+1≤i+4^0;omega⟩
 | succ d ih =>
  intro i w h3 h1 h2
  have hy:=eh hb i
  have hp:1≤4^d:=Nat.one_le_pow _ _ (by omega)
  have hpow:4^(d+1)=4*4^d:=by rw[Nat.pow_succ];omega
  rw[am]
  split
  ·obtain⟨q1, q2, q3⟩:=CT (s:=s) (w:=w) (b:=b.getD i 0 / 14) (bf.2 ⟨h1, by omega⟩) (by omega)
   exact⟨q1, by show fS (aZ s w (b.getD i 0 / 14))≤_;omega, by show i≤i+1;omega, by show i+1≤i+4^(d+1);omega⟩
  ·rename_i hn
   simp only[not_or]at hn
   split
   ·generalize hz:b.getD i 0 / 14=z
    have hz0:0≤z:=by omega
    unfold bv
    split
    ·rename_i m hm
     split at hm
     ·obtain⟨e1, e2, e3⟩:=wH hm
      obtain⟨q1, q2, q3, q4⟩:=ih (i+1) (1+z / 3%3) (by omega) (by omega) (by omega)
      refine⟨?_, ?_, by simp only;omega, by simp only;omega⟩
      ·simp only
       rw[e9, e9.tyL, q1, e9.tyL]
       simp only
       rw[if_neg (by decide), if_neg (by decide), if_pos trivial]
       have hl:(s.sc.mw.length:Int)=s.mems.length:=by show((s.mems.map (·.w)).length:Int)=_;simp
       rw[if_pos ⟨rfl, by simp, by rw[hl];show((m:Nat):Int)<_;omega⟩]
       show some ((s.mems.map (·.w)).getD (m:Int).toNat 0)=some w
       rw[Int.toNat_natCast, c6 (·.w) s.mems m ba 0 (by omega), e3]
      ·rw[fS, fS.depL, fS.depL];omega
     ·cases hm
    ·rename_i hm
     split
     ·rename_i hc
      obtain⟨q1, q2, q3, q4⟩:=ih (i+1) (w-1) (by omega) (by omega) (by omega)
      refine⟨?_, ?_, by simp only;omega, by simp only;omega⟩
      ·simp only
       rw[e9, e9.tyL, q1, e9.tyL]
       simp only
       rw[if_neg (by decide), if_neg (by decide), if_neg (by decide)]
       have e:bj 13 [w-1] 0 w=w:=by
        show(if w<w-1 then 0 else w)=w
        rw[if_neg (by omega)]
       have ho:oP 13 [w-1] 0 w=true:=by
        unfold oP
        rw[e]
        have f1:ax w=true:=bf.2 ⟨h1, by omega⟩
        have f2:ax (w-1)=true:=bf.2 ⟨by omega, by omega⟩
        simp[f1, f2];decide
       rw[if_pos ho, e]
      ·rw[fS, fS.depL, fS.depL];omega
     ·have hm2:z / 3%2=0∨z / 3%2=1:=by omega
      obtain⟨q1, q2, q3, q4⟩:=ih (i+1) (w+z / 3%2) (by omega) (by omega) (by omega)
      refine⟨?_, ?_, by simp only;omega, by simp only;omega⟩
      ·simp only
       rw[e9, e9.tyL, q1, e9.tyL]
       simp only
       rw[if_neg (by decide), if_neg (by decide), if_neg (by decide)]
       have f1:ax w=true:=bf.2 ⟨h1, by omega⟩
       have f2:ax (w+z / 3%2)=true:=bf.2 ⟨by omega, by omega⟩
       have e:bj 12 [w+z / 3%2] (z / 3%2) w=w:=by
        show(if ax w=false∨z / 3%2<0∨(w+z / 3%2)-w<z / 3%2 then 0 else w)=w
        rw[if_neg]
        rintro(hh | hh | hh)
        ·rw[f1]at hh;cases hh
        ·omega
        ·omega
       have ho:oP 12 [w+z / 3%2] (z / 3%2) w=true:=by
        unfold oP
        rw[e]
        simp[f1, f2];decide
       rw[if_pos ho, e]
      ·rw[fS, fS.depL, fS.depL];omega
   ·obtain⟨o1, o2, o3, o4, o5⟩:=F2 (y:=b.getD i 0) (w:=w) (by omega) hy.1 h1 (by omega)
    have key:∀v∈ju (b.getD i 0) w, ∀i, e9 s.sc (am s b d i v).1=some v∧fS (am s b d i v).1≤max d 1∧i≤(am s b d i v).2∧(am s b d i v).2≤i+4^d:=by
     intro v hv j
     have:=o4 v hv
     exact ih j v (by omega) this.1 (by omega)
    have hty:=CU (c:=s.sc) (t:=am s b d) (ju (b.getD i 0) w) (i+1) (fun v hv j=>(key v hv j).1)
    have hdp:=zy (t:=am s b d) (n:=max d 1) (ju (b.getD i 0) w) (i+1) (fun v hv j=>(key v hv j).2.1)
    have hps:=uZ (t:=am s b d) (n:=4^d) (ju (b.getD i 0) w) (i+1) (fun v hv j=>(key v hv j).2.2)
    refine⟨?_, ?_, by simp only;omega, ?_⟩
    ·rw[e9, hty]
     simp only
     rw[if_neg o3.1, if_neg o3.2.1, if_neg o3.2.2, if_pos o1, o2]
    ·rw[fS];omega
    ·simp only
     have:4^d*(ju (b.getD i 0) w).length≤4^d*3:=Nat.mul_le_mul_left _ o5
     omega
theorem F3 {s:Sg} {w b:Int} (h:(cB s w).length=0∨b%4=0):aZ s w b=en (b / 4) w:=if_pos h
theorem F4 {s:Sg} {w b:Int} (h1:¬((cB s w).length:Int)=0) (h2:¬b%4=0):aZ s w b=(cB s w).getD (b / 4%((cB s w).length:Int)).toNat dE:=if_neg (by rintro(h | h)<;>omega)
theorem wI (s:Sg) (w b:Int):(aZ s w b).args=[]:=by
 unfold aZ
 split
 ·rfl
 ·by_cases h:(b / 4%((cB s w).length:Int)).toNat<(cB s w).length
  ·exact(F1 (nI h)).2.1
  ·rw[List.getD, List.getElem?_eq_none (by omega)];rfl
theorem Mb {s:Sg} {t:Nat→Int→Ex×Nat} {w b:Int} {i k:Nat} (h:b%3=0) (hm:oS s.mems w s.mems.length 0=some k):bv s t w b i=(⟨17, e0, ⟨k, e0⟩, dN, [(t i (1+b / 3%3)).1]⟩, (t i (1+b / 3%3)).2):=by
 unfold bv;rw[if_pos h, hm]
theorem F5 {s:Sg} {t:Nat→Int→Ex×Nat} {w b:Int} {i:Nat} (h:b%3=1) (hw:w>1):bv s t w b i=(⟨13, e0, dN, ⟨w, e0⟩, [(t i (w-1)).1]⟩, (t i (w-1)).2):=by
 unfold bv;rw[if_neg (by omega)];simp only;rw[if_pos ⟨h, hw⟩]
theorem F6 {s:Sg} {t:Nat→Int→Ex×Nat} {w b:Int} {i:Nat} (hm:b%3=0→oS s.mems w s.mems.length 0=none) (h:¬(b%3=1∧w>1)):bv s t w b i=(⟨12, e0, ⟨b / 3%2, e0⟩, ⟨w, e0⟩, [(t i (w+b / 3%2)).1]⟩, (t i (w+b / 3%2)).2):=by
 unfold bv
 have e:(if b%3=0 then oS s.mems w s.mems.length 0 else none)=none:=by split;exact hm ‹_›;rfl
 rw[e];simp only;rw[if_neg h]
theorem CV {l:List Mm} {w:Int} {k:Nat} (hk:k<l.length) (h:¬(l.getD k ba).w=w):oS l w (l.length-k) k=oS l w (l.length-(k+1)) (k+1):=by
 have e:l.length-k=(l.length-(k+1))+1:=by omega
 rw[e, oS, if_neg h]
theorem F7 {l:List Mm} {w:Int} {k:Nat} (hk:k<l.length) (h:(l.getD k ba).w=w):oS l w (l.length-k) k=some k:=by
 have e:l.length-k=(l.length-(k+1))+1:=by omega
 rw[e, oS, if_pos h]
theorem u2 {l:List Mm} {w:Int} {k:Nat} (hk:¬k<l.length):oS l w (l.length-k) k=none:=by
 have e:l.length-k=0:=by omega
 rw[e, oS]
theorem F8 {s:Sg} {b:List Int} {d i:Nat} {w:Int} (h:d≤1):am s b d i w=(aZ s w (b.getD i 0 / 14), i+1):=by
 cases d with
 | zero=>rfl
 | succ d=>rw[am];rw[if_pos (.inl (by omega))]
theorem Ku {s:Sg} {b:List Int} {d i:Nat} {w:Int} (h:b.getD i 0%14<2):am s b (d+1+1) i w=(aZ s w (b.getD i 0 / 14), i+1):=by
 rw[am];rw[if_pos (.inr h)]
theorem F9 {s:Sg} {b:List Int} {d i:Nat} {w:Int} (h:b.getD i 0%14=2∨b.getD i 0%14=3):am s b (d+1+1) i w=bv s (am s b (d+1)) w (b.getD i 0 / 14) (i+1):=by
 rw[am];rw[if_neg (by omega), if_pos h]
theorem A8 {s:Sg} {b:List Int} {d i:Nat} {w:Int} (h:¬b.getD i 0%14<2) (h2:¬b.getD i 0%14=2) (h3:¬b.getD i 0%14=3):am s b (d+1+1) i w=(⟨se (b.getD i 0) w, e0, dN, dN, (bo (am s b (d+1)) (ju (b.getD i 0) w) (i+1)).1⟩, (bo (am s b (d+1)) (ju (b.getD i 0) w) (i+1)).2):=by
 rw[am];rw[if_neg (by omega), if_neg (by omega)]
theorem sg {t:Nat→Int→Ex×Nat}:∀(l:List Int) (i k:Nat), k<l.length→bo t (l.take (k+1)) i=((bo t (l.take k) i).1++[(t (bo t (l.take k) i).2 (l.getD k 0)).1], (t (bo t (l.take k) i).2 (l.getD k 0)).2)
 | [], i, k, h=>by cases h
 | w::r, i, 0, h=>by simp[bo]
 | w::r, i, k+1, h=>by
  simp only[List.take_succ_cons, bo]
  rw[sg r _ k (by simpa using h)]
  simp
theorem Kv {s:Sg} {b:List Int} (hb:qe b) {y w:Int} {d k:Nat} (i:Nat) (h1:1≤w) (h2:w+(d+2:Nat)≤8) (h3:d+2≤3) (hy:4≤y%14) (hy0:0≤y) (hk:k<(ju y w).length):1≤(ju y w).getD k 0∧(ju y w).getD k 0+(d+1:Nat)≤8∧i≤(bo (am s b (d+1)) ((ju y w).take k) i).2∧(bo (am s b (d+1)) ((ju y w).take k) i).2+4^(d+1)+1≤i+4^(d+2):=by
 obtain⟨o1, o2, o3, o4, o5⟩:=F2 hy hy0 h1 (by omega:w≤8)
 have hm:(ju y w).getD k 0∈ju y w:=by
  rw[List.getD, List.getElem?_eq_getElem hk];exact List.getElem_mem hk
 have hv:=o4 _ hm
 have hps:=uZ (t:=am s b (d+1)) (n:=4^(d+1)) ((ju y w).take k) i (fun v hv j=>by
  have hh:=o4 v (List.mem_of_mem_take hv)
  exact(u1 hb (d+1) j v (by omega) hh.1 (by omega)).2.2)
 have hl:((ju y w).take k).length≤2:=by rw[List.length_take];omega
 have hq:4^(d+1)*((ju y w).take k).length≤4^(d+1)*2:=Nat.mul_le_mul_left _ hl
 have hp:1≤4^(d+1):=Nat.one_le_pow _ _ (by omega)
 have hpow:4^(d+2)=4*4^(d+1):=by rw[Nat.pow_succ];omega
 exact⟨hv.1, by omega, hps.1, by omega⟩
theorem OL {x:Int} {n:Nat} (h:¬(n:Int)=0):IX (x%(n:Int)) (n:Int):=⟨Int.emod_nonneg x h, Int.emod_lt_of_pos x (by omega)⟩
end Go.Proofs.YtckgpflobhpnpaaGreat
