/-
  Made processes, plain law: expressions that bytes describe.
-/
import Derived.Test.YtckgpflobhpnpaaGreatQPrQ
namespace Go.Proofs.YtckgpflobhpnpaaGreat
open Go.RowKit
set_option linter.unusedVariables false
set_option linter.unusedSimpArgs false
def rS (b:List Int):Prop:=∀x∈b, 0≤x∧x≤255
theorem eY {b:List Int} (h:rS b) (i:Nat):0≤b.getD i 0∧b.getD i 0≤255:=by
 by_cases hi:i<b.length
 ·simp only[List.getD, List.getElem?_eq_getElem hi, Option.getD_some]
  exact h _ (List.getElem_mem hi)
 ·simp[List.getD, List.getElem?_eq_none (Nat.le_of_not_lt hi)]
structure Sg where
 regs:List Int
 takes:List Int
 mems:List Mm
 data:Bool
def Sg.sc (s:Sg):Sc:=⟨s.regs, s.mems.map (·.w), if s.data then s.takes else []⟩
def eH (v w:Int):Ex:=⟨1, e0, ⟨v%2^w.toNat, e0⟩, ⟨w, e0⟩, []⟩
def Gi (i:Nat):Ex:=⟨16, e0, ⟨i, e0⟩, dN, []⟩
def HZ (i:Nat):Ex:=⟨18, e0, ⟨i, e0⟩, dN, []⟩
def eR (f:Nat→Ex) (w:Int) (l:List Int):Nat→List Ex
 | 0=>[]
 | k+1=>eR f w l k++(if l.getD k 0=w then [f k]else [])
def cS (s:Sg) (w:Int):List Ex:=eR Gi w s.regs s.regs.length++(if s.data then eR HZ w s.takes s.takes.length else [])
def be (s:Sg) (w b:Int):Ex:=if (cS s w).length=0∨b%4=0 then eH (b / 4) w else (cS s w).getD (b / 4%(cS s w).length).toNat dE
def pQ (l:List Mm) (w:Int):Nat→Nat→Option Nat
 | 0, _=>none
 | n+1, k=>if (l.getD k bi).w=w then some k else pQ l w n (k+1)
def jc (k:Int):Int:=[2, 3, 4, 5, 6, 7, 10, 8, 9, 11].getD (k-4).toNat 0
def tn (y w:Int):Int:=let o:=jc (y%14);if (o=8∨o=9)∧w>1 then 5 else if o=11∧w=1 then 3 else o
def jV (y w:Int):List Int:=let o:=jc (y%14)
 if o=2 then [w]else if o=10 then [1, w, w]else if o=8∨o=9 then (if w>1 then [w, w]else [1+y / 14%3, 1+y / 14%3])else if o=11 then (if w=1 then [w, w]else [w-1, 1])else [w, w]
def bx (t:Nat→Int→Ex×Nat):List Int→Nat→List Ex×Nat
 | [], i=>([], i)
 | w::r, i=>((t i w).1::(bx t r (t i w).2).1, (bx t r (t i w).2).2)
def bE (s:Sg) (t:Nat→Int→Ex×Nat) (w b:Int) (i:Nat):Ex×Nat :=
 match (if b%3=0 then pQ s.mems w s.mems.length 0 else none)with
 | some m=>let x:=t i (1+b / 3%3);(⟨17, e0, ⟨m, e0⟩, dN, [x.1]⟩, x.2)
 | none=>if b%3=1∧w>1 then let x:=t i (w-1);(⟨13, e0, dN, ⟨w, e0⟩, [x.1]⟩, x.2)
  else let x:=t i (w+b / 3%2);(⟨12, e0, ⟨b / 3%2, e0⟩, ⟨w, e0⟩, [x.1]⟩, x.2)
def ak (s:Sg) (b:List Int):Nat→Nat→Int→Ex×Nat
 | 0, i, w=>(be s w (b.getD i 0 / 14), i+1)
 | d+1, i, w =>
  let y:=b.getD i 0
  if d=0∨y%14<2 then (be s w (y / 14), i+1)
  else if y%14=2∨y%14=3 then bE s (ak s b d) w (y / 14) (i+1)
  else (⟨tn y w, e0, dN, dN, (bx (ak s b d) (jV y w) (i+1)).1⟩, (bx (ak s b d) (jV y w) (i+1)).2)
theorem EJ {s:Sg} {w:Int} {acc:List Ex} {j:Nat} (h:acc=eR Gi w s.regs s.regs.length++eR HZ w s.takes j) (h0:s.data=false→j=0) (h1:s.data=true→j=s.takes.length):acc=cS s w:=by
 rw[h];unfold cS
 cases hs:s.data
 ·rw[h0 hs];simp[eR]
 ·rw[h1 hs];simp
theorem oW {f:Nat→Ex} {w:Int} {l:List Int} {k:Nat} (h:l.getD k 0=w):eR f w l k++[f k]=eR f w l (k+1):=by rw[eR, if_pos h]
theorem rT {f:Nat→Ex} {w:Int} {l:List Int} {k:Nat} (h:¬l.getD k 0=w):eR f w l k=eR f w l (k+1):=by rw[eR, if_neg h, List.append_nil]
theorem KK (s:Sg) (w:Int):(cS s w).length≤s.regs.length+s.takes.length:=by
 have key:∀(f:Nat→Ex) (l:List Int) (k:Nat), (eR f w l k).length≤k:=by
  intro f l k
  induction k with
  | zero=>simp[eR]
  | succ k ih=>rw[eR];simp only[List.length_append];split<;>simp<;>omega
 unfold cS
 have h1:=key Gi s.regs s.regs.length
 have h2:=key HZ s.takes s.takes.length
 rw[List.length_append]
 split
 ·omega
 ·simp;omega
theorem tp {f:Nat→Ex} {w:Int} {l:List Int} {e:Ex}:∀(k:Nat), e∈eR f w l k→∃i, i<k∧e=f i∧l.getD i 0=w
 | 0, h=>by cases h
 | k+1, h=>by
  rw[eR, List.mem_append]at h
  rcases h with h | h
  ·obtain⟨i, h1, h2⟩:=tp k h;exact⟨i, by omega, h2⟩
  ·split at h
   ·rename_i hw
    simp only[List.mem_singleton]at h
    exact⟨k, by omega, h, hw⟩
   ·cases h
theorem MX {c:Sc} {v w:Int} (hw:ay w=true):fq c (eH v w)=some w:=by
 have h:=bn.1 hw
 unfold eH
 rw[fq, fq.tyL]
 simp only
 rw[if_neg (by decide), if_neg (by decide), if_neg (by decide)]
 have hm:=u6 (x:=v) (w:=w) (by omega) (by omega)
 have e:bu 1 [] (v%2^w.toNat) w=w:=by
  show(if ay w=false∨v%2^w.toNat<0∨an w<v%2^w.toNat then 0 else w)=w
  rw[if_neg]
  rintro(h1 | h1 | h1)
  ·rw[hw]at h1;cases h1
  ·have:=hm.1;omega
  ·have:=hm.2;omega
 have ho:pO 1 [] (v%2^w.toNat) w=true:=by
  unfold pO
  rw[e, hw]
  rfl
 rw[if_pos ho, e]
theorem H0 {s:Sg} {w:Int} {e:Ex} (h:e∈cS s w):fq s.sc e=some w∧e.args=[]∧gd e=1:=by
 unfold cS at h
 rw[List.mem_append]at h
 rcases h with h | h
 ·obtain⟨i, h1, rfl, h2⟩:=tp _ h
  refine⟨?_, rfl, rfl⟩
  unfold Gi
  rw[fq, fq.tyL]
  simp only
  rw[if_pos trivial, if_pos ⟨by trivial, by simp, by show((i:Nat):Int)<(s.regs.length:Int);omega⟩]
  show some (s.regs.getD (i:Int).toNat 0)=some w
  rw[Int.toNat_natCast, h2]
 ·split at h
  ·rename_i hd
   obtain⟨i, h1, rfl, h2⟩:=tp _ h
   refine⟨?_, rfl, rfl⟩
   have ht:s.sc.tw=s.takes:=by show(if s.data then s.takes else [])=s.takes;rw[if_pos hd]
   unfold HZ
   rw[fq, fq.tyL]
   simp only
   rw[if_neg (by decide), if_pos trivial, ht, if_pos ⟨by trivial, by simp, by omega⟩, Int.toNat_natCast, h2]
  ·cases h
theorem EK {s:Sg} {w b:Int} (hw:ay w=true) (hb:0≤b):fq s.sc (be s w b)=some w∧(be s w b).args=[]∧gd (be s w b)=1:=by
 unfold be
 split
 ·exact⟨MX hw, rfl, rfl⟩
 ·rename_i hn
  simp only[not_or]at hn
  have h1:=Int.emod_lt_of_pos (b / 4) (show(0:Int)<((cS s w).length:Int) by omega)
  have h0:=Int.emod_nonneg (b / 4) (show((cS s w).length:Int)≠0 by omega)
  exact H0 (oV (by omega))
theorem yf {l:List Mm} {w:Int}:∀{n k m:Nat}, pQ l w n k=some m→k≤m∧m<k+n∧(l.getD m bi).w=w
 | 0, k, m, h=>by cases h
 | n+1, k, m, h=>by
  rw[pQ]at h
  split at h
  ·rename_i hw;cases h;exact⟨by omega, by omega, hw⟩
  ·obtain⟨h1, h2, h3⟩:=yf h;exact⟨by omega, by omega, h3⟩
theorem A9 {t:Nat→Int→Ex×Nat}:∀(ws:List Int) (i:Nat), (bx t ws i).1.length=ws.length
 | [], i=>rfl
 | w::r, i=>by rw[bx];simp[A9 r]
theorem EL {c:Sc} {t:Nat→Int→Ex×Nat}:∀(ws:List Int) (i:Nat), (∀w∈ws, ∀i, fq c (t i w).1=some w)→fq.tyL c (bx t ws i).1=some ws
 | [], i, _=>rfl
 | w::r, i, h=>by
  rw[bx, fq.tyL, h w (by simp) i, EL r _ (fun w hw=>h w (by simp[hw]))]
theorem Ba {t:Nat→Int→Ex×Nat} {n:Nat}:∀(ws:List Int) (i:Nat), (∀w∈ws, ∀i, gd (t i w).1≤n)→gd.depL (bx t ws i).1≤n
 | [], i, _=>by rw[bx, gd.depL];exact Nat.zero_le _
 | w::r, i, h=>by
  rw[bx, gd.depL]
  have h1:=h w (by simp) i
  have h2:=Ba r (t i w).2 (fun w hw=>h w (by simp[hw]))
  omega
theorem wq {t:Nat→Int→Ex×Nat} {n:Nat}:∀(ws:List Int) (i:Nat), (∀w∈ws, ∀i, i≤(t i w).2∧(t i w).2≤i+n)→i≤(bx t ws i).2∧(bx t ws i).2≤i+n*ws.length
 | [], i, _=>⟨Nat.le_refl _, Nat.le_add_right _ _⟩
 | w::r, i, h=>by
  rw[bx]
  have h1:=h w (by simp) i
  have h2:=wq r (t i w).2 (fun w hw=>h w (by simp[hw]))
  have:n*(w::r).length=n*r.length+n:=by rw[List.length_cons, Nat.mul_succ]
  show i≤(bx t r (t i w).2).2∧(bx t r (t i w).2).2≤i+n*(w::r).length
  omega
theorem Gj {k:Int} (h:4≤k) (h2:k<14):jc k=2∨jc k=3∨jc k=4∨jc k=5∨jc k=6∨jc k=7∨jc k=10∨jc k=8∨jc k=9∨jc k=11:=by
 have:k=4∨k=5∨k=6∨k=7∨k=8∨k=9∨k=10∨k=11∨k=12∨k=13:=by omega
 rcases this with rfl | rfl | rfl | rfl | rfl | rfl | rfl | rfl | rfl | rfl<;>decide
theorem BV {op:Int} {w k v:Int} (hop:op=3∨op=4∨op=5∨op=6∨op=7) (hw:ay w=true):pO op [w, w] k v=true∧bu op [w, w] k v=w:=by
 have e:∀op, bu op [w, w] k v=w∨True:=fun _=>.inr trivial
 have ha:cg [w, w]=w:=by unfold cg;rw[if_neg (by simp)];rfl
 have hv:bu op [w, w] k v=cg [w, w]:=by rcases hop with rfl | rfl | rfl | rfl | rfl<;>rfl
 have hA:bQ op=2:=by rcases hop with rfl | rfl | rfl | rfl | rfl<;>decide
 refine⟨?_, by rw[hv, ha]⟩
 unfold pO
 rw[hv, ha, hA]
 simp[hw]
theorem H2 {y w:Int} (hk:4≤y%14) (h0:0≤y) (hw:1≤w) (hw8:w≤8):pO (tn y w) (jV y w) 0 0=true∧bu (tn y w) (jV y w) 0 0=w∧(tn y w≠16∧tn y w≠18∧tn y w≠17)∧(∀v∈jV y w, 1≤v∧(v≤w∨v≤3))∧(jV y w).length≤3:=by
 have hf:ay w=true:=bn.2 ⟨hw, hw8⟩
 have hc:=Gj hk (by omega)
 unfold tn jV
 simp only
 have hn:(1:Int)≤1+y / 14%3∧1+y / 14%3≤3:=by omega
 generalize hv:1+y / 14%3=v at *
 have hfv:ay v=true:=bn.2 ⟨hn.1, by omega⟩
 rcases hc with h | h | h | h | h | h | h | h | h | h<;>rw[h]<;>simp only[Int.reduceEq, false_or, or_false, false_and, if_false, true_and, if_true, or_true, true_or]
 ·refine⟨?_, rfl, by decide, by simp;omega, by simp⟩
  show(decide (([w].length:Int)=bQ 2)&&[w].all ay&&ay w)=true
  simp[hf];decide
 ·exact⟨(BV (by simp) hf).1, (BV (by simp) hf).2, by decide, by simp;omega, by simp⟩
 ·exact⟨(BV (by simp) hf).1, (BV (by simp) hf).2, by decide, by simp;omega, by simp⟩
 ·exact⟨(BV (by simp) hf).1, (BV (by simp) hf).2, by decide, by simp;omega, by simp⟩
 ·exact⟨(BV (by simp) hf).1, (BV (by simp) hf).2, by decide, by simp;omega, by simp⟩
 ·exact⟨(BV (by simp) hf).1, (BV (by simp) hf).2, by decide, by simp;omega, by simp⟩
 ·have e:bu 10 [1, w, w] 0 0=w:=by
   show(if (1:Int)≠1∨w≠w then 0 else w)=w
   rw[if_neg (by simp)]
  refine⟨?_, e, by decide, by simp;omega, by simp⟩
  unfold pO
  rw[e]
  simp[hf];decide
 ·split
  ·exact⟨(BV (by simp) hf).1, (BV (by simp) hf).2, by decide, by simp;omega, by simp⟩
  ·have hw1:w=1:=by omega
   subst hw1
   have ha:cg [v, v]=v:=by unfold cg;rw[if_neg (by simp)];rfl
   have e:bu 8 [v, v] 0 0=1:=by
    show min (cg [v, v]) 1=1
    rw[ha];omega
   refine⟨?_, e, by decide, by simp;omega, by simp⟩
   unfold pO
   rw[e]
   simp[hfv];decide
 ·split
  ·exact⟨(BV (by simp) hf).1, (BV (by simp) hf).2, by decide, by simp;omega, by simp⟩
  ·have hw1:w=1:=by omega
   subst hw1
   have ha:cg [v, v]=v:=by unfold cg;rw[if_neg (by simp)];rfl
   have e:bu 9 [v, v] 0 0=1:=by
    show min (cg [v, v]) 1=1
    rw[ha];omega
   refine⟨?_, e, by decide, by simp;omega, by simp⟩
   unfold pO
   rw[e]
   simp[hfv];decide
 ·split
  ·exact⟨(BV (by simp) hf).1, (BV (by simp) hf).2, by decide, by simp;omega, by simp⟩
  ·have e:bu 11 [w-1, 1] 0 0=w:=by
    show(w-1)+1=w
    omega
   have hf1:ay (w-1)=true:=bn.2 ⟨by omega, by omega⟩
   refine⟨?_, e, by decide, by simp;omega, by simp⟩
   unfold pO
   rw[e]
   simp[hf, hf1];decide
theorem wt {s:Sg} {b:List Int} (hb:rS b):∀(d i:Nat) (w:Int), d≤3→1≤w→w+d≤8→fq s.sc (ak s b d i w).1=some w∧gd (ak s b d i w).1≤max d 1∧i≤(ak s b d i w).2∧(ak s b d i w).2≤i+4^d:=by
 intro d
 induction d with
 | zero =>
  intro i w h3 h1 h2
  have hy:=eY hb i
  obtain⟨q1, q2, q3⟩:=EK (s:=s) (w:=w) (b:=b.getD i 0 / 14) (bn.2 ⟨h1, by omega⟩) (by omega)
  rw[ak]
  exact⟨q1, by show gd (be s w (b.getD i 0 / 14))≤1;omega, by show i≤i+1;omega, by show i+1≤i+4^0;omega⟩
 | succ d ih =>
  intro i w h3 h1 h2
  have hy:=eY hb i
  have hp:1≤4^d:=Nat.one_le_pow _ _ (by omega)
  have hpow:4^(d+1)=4*4^d:=by rw[Nat.pow_succ];omega
  rw[ak]
  split
  ·obtain⟨q1, q2, q3⟩:=EK (s:=s) (w:=w) (b:=b.getD i 0 / 14) (bn.2 ⟨h1, by omega⟩) (by omega)
   exact⟨q1, by show gd (be s w (b.getD i 0 / 14))≤_;omega, by show i≤i+1;omega, by show i+1≤i+4^(d+1);omega⟩
  ·rename_i hn
   simp only[not_or]at hn
   split
   ·generalize hz:b.getD i 0 / 14=z
    have hz0:0≤z:=by omega
    unfold bE
    split
    ·rename_i m hm
     split at hm
     ·obtain⟨e1, e2, e3⟩:=yf hm
      obtain⟨q1, q2, q3, q4⟩:=ih (i+1) (1+z / 3%3) (by omega) (by omega) (by omega)
      refine⟨?_, ?_, by simp only;omega, by simp only;omega⟩
      ·simp only
       rw[fq, fq.tyL, q1, fq.tyL]
       simp only
       rw[if_neg (by decide), if_neg (by decide), if_pos trivial]
       have hl:(s.sc.mw.length:Int)=s.mems.length:=by show((s.mems.map (·.w)).length:Int)=_;simp
       rw[if_pos ⟨rfl, by simp, by rw[hl];show((m:Nat):Int)<_;omega⟩]
       show some ((s.mems.map (·.w)).getD (m:Int).toNat 0)=some w
       rw[Int.toNat_natCast, dq (·.w) s.mems m bi 0 (by omega), e3]
      ·rw[gd, gd.depL, gd.depL];omega
     ·cases hm
    ·rename_i hm
     split
     ·rename_i hc
      obtain⟨q1, q2, q3, q4⟩:=ih (i+1) (w-1) (by omega) (by omega) (by omega)
      refine⟨?_, ?_, by simp only;omega, by simp only;omega⟩
      ·simp only
       rw[fq, fq.tyL, q1, fq.tyL]
       simp only
       rw[if_neg (by decide), if_neg (by decide), if_neg (by decide)]
       have e:bu 13 [w-1] 0 w=w:=by
        show(if w<w-1 then 0 else w)=w
        rw[if_neg (by omega)]
       have ho:pO 13 [w-1] 0 w=true:=by
        unfold pO
        rw[e]
        have f1:ay w=true:=bn.2 ⟨h1, by omega⟩
        have f2:ay (w-1)=true:=bn.2 ⟨by omega, by omega⟩
        simp[f1, f2];decide
       rw[if_pos ho, e]
      ·rw[gd, gd.depL, gd.depL];omega
     ·have hm2:z / 3%2=0∨z / 3%2=1:=by omega
      obtain⟨q1, q2, q3, q4⟩:=ih (i+1) (w+z / 3%2) (by omega) (by omega) (by omega)
      refine⟨?_, ?_, by simp only;omega, by simp only;omega⟩
      ·simp only
       rw[fq, fq.tyL, q1, fq.tyL]
       simp only
       rw[if_neg (by decide), if_neg (by decide), if_neg (by decide)]
       have f1:ay w=true:=bn.2 ⟨h1, by omega⟩
       have f2:ay (w+z / 3%2)=true:=bn.2 ⟨by omega, by omega⟩
       have e:bu 12 [w+z / 3%2] (z / 3%2) w=w:=by
        show(if ay w=false∨z / 3%2<0∨(w+z / 3%2)-w<z / 3%2 then 0 else w)=w
        rw[if_neg]
        rintro(hh | hh | hh)
        ·rw[f1]at hh;cases hh
        ·omega
        ·omega
       have ho:pO 12 [w+z / 3%2] (z / 3%2) w=true:=by
        unfold pO
        rw[e]
        simp[f1, f2];decide
       rw[if_pos ho, e]
      ·rw[gd, gd.depL, gd.depL];omega
   ·obtain⟨o1, o2, o3, o4, o5⟩:=H2 (y:=b.getD i 0) (w:=w) (by omega) hy.1 h1 (by omega)
    have key:∀v∈jV (b.getD i 0) w, ∀i, fq s.sc (ak s b d i v).1=some v∧gd (ak s b d i v).1≤max d 1∧i≤(ak s b d i v).2∧(ak s b d i v).2≤i+4^d:=by
     intro v hv j
     have:=o4 v hv
     exact ih j v (by omega) this.1 (by omega)
    have hty:=EL (c:=s.sc) (t:=ak s b d) (jV (b.getD i 0) w) (i+1) (fun v hv j=>(key v hv j).1)
    have hdp:=Ba (t:=ak s b d) (n:=max d 1) (jV (b.getD i 0) w) (i+1) (fun v hv j=>(key v hv j).2.1)
    have hps:=wq (t:=ak s b d) (n:=4^d) (jV (b.getD i 0) w) (i+1) (fun v hv j=>(key v hv j).2.2)
    refine⟨?_, ?_, by simp only;omega, ?_⟩
    ·rw[fq, hty]
     simp only
     rw[if_neg o3.1, if_neg o3.2.1, if_neg o3.2.2, if_pos o1, o2]
    ·rw[gd];omega
    ·simp only
     have:4^d*(jV (b.getD i 0) w).length≤4^d*3:=Nat.mul_le_mul_left _ o5
     omega
theorem H3 {s:Sg} {w b:Int} (h:(cS s w).length=0∨b%4=0):be s w b=eH (b / 4) w:=if_pos h
theorem H4 {s:Sg} {w b:Int} (h1:¬((cS s w).length:Int)=0) (h2:¬b%4=0):be s w b=(cS s w).getD (b / 4%((cS s w).length:Int)).toNat dE:=if_neg (by rintro(h | h)<;>omega)
theorem yg (s:Sg) (w b:Int):(be s w b).args=[]:=by
 unfold be
 split
 ·rfl
 ·by_cases h:(b / 4%((cS s w).length:Int)).toNat<(cS s w).length
  ·exact(H0 (oV h)).2.1
  ·rw[List.getD, List.getElem?_eq_none (by omega)];rfl
theorem OI {s:Sg} {t:Nat→Int→Ex×Nat} {w b:Int} {i k:Nat} (h:b%3=0) (hm:pQ s.mems w s.mems.length 0=some k):bE s t w b i=(⟨17, e0, ⟨k, e0⟩, dN, [(t i (1+b / 3%3)).1]⟩, (t i (1+b / 3%3)).2):=by
 unfold bE;rw[if_pos h, hm]
theorem H5 {s:Sg} {t:Nat→Int→Ex×Nat} {w b:Int} {i:Nat} (h:b%3=1) (hw:w>1):bE s t w b i=(⟨13, e0, dN, ⟨w, e0⟩, [(t i (w-1)).1]⟩, (t i (w-1)).2):=by
 unfold bE;rw[if_neg (by omega)];simp only;rw[if_pos ⟨h, hw⟩]
theorem H6 {s:Sg} {t:Nat→Int→Ex×Nat} {w b:Int} {i:Nat} (hm:b%3=0→pQ s.mems w s.mems.length 0=none) (h:¬(b%3=1∧w>1)):bE s t w b i=(⟨12, e0, ⟨b / 3%2, e0⟩, ⟨w, e0⟩, [(t i (w+b / 3%2)).1]⟩, (t i (w+b / 3%2)).2):=by
 unfold bE
 have e:(if b%3=0 then pQ s.mems w s.mems.length 0 else none)=none:=by split;exact hm ‹_›;rfl
 rw[e];simp only;rw[if_neg h]
theorem EM {l:List Mm} {w:Int} {k:Nat} (hk:k<l.length) (h:¬(l.getD k bi).w=w):pQ l w (l.length-k) k=pQ l w (l.length-(k+1)) (k+1):=by
 have e:l.length-k=(l.length-(k+1))+1:=by omega
 rw[e, pQ, if_neg h]
theorem H7 {l:List Mm} {w:Int} {k:Nat} (hk:k<l.length) (h:(l.getD k bi).w=w):pQ l w (l.length-k) k=some k:=by
 have e:l.length-k=(l.length-(k+1))+1:=by omega
 rw[e, pQ, if_pos h]
theorem wu {l:List Mm} {w:Int} {k:Nat} (hk:¬k<l.length):pQ l w (l.length-k) k=none:=by
 have e:l.length-k=0:=by omega
 rw[e, pQ]
theorem H8 {s:Sg} {b:List Int} {d i:Nat} {w:Int} (h:d≤1):ak s b d i w=(be s w (b.getD i 0 / 14), i+1):=by
 cases d with
 | zero=>rfl
 | succ d=>rw[ak];rw[if_pos (.inl (by omega))]
theorem MY {s:Sg} {b:List Int} {d i:Nat} {w:Int} (h:b.getD i 0%14<2):ak s b (d+1+1) i w=(be s w (b.getD i 0 / 14), i+1):=by
 rw[ak];rw[if_pos (.inr h)]
theorem H9 {s:Sg} {b:List Int} {d i:Nat} {w:Int} (h:b.getD i 0%14=2∨b.getD i 0%14=3):ak s b (d+1+1) i w=bE s (ak s b (d+1)) w (b.getD i 0 / 14) (i+1):=by
 rw[ak];rw[if_neg (by omega), if_pos h]
theorem CP {s:Sg} {b:List Int} {d i:Nat} {w:Int} (h:¬b.getD i 0%14<2) (h2:¬b.getD i 0%14=2) (h3:¬b.getD i 0%14=3):ak s b (d+1+1) i w=(⟨tn (b.getD i 0) w, e0, dN, dN, (bx (ak s b (d+1)) (jV (b.getD i 0) w) (i+1)).1⟩, (bx (ak s b (d+1)) (jV (b.getD i 0) w) (i+1)).2):=by
 rw[ak];rw[if_neg (by omega), if_neg (by omega)]
theorem tq {t:Nat→Int→Ex×Nat}:∀(l:List Int) (i k:Nat), k<l.length→bx t (l.take (k+1)) i=((bx t (l.take k) i).1++[(t (bx t (l.take k) i).2 (l.getD k 0)).1], (t (bx t (l.take k) i).2 (l.getD k 0)).2)
 | [], i, k, h=>by cases h
 | w::r, i, 0, h=>by simp[bx]
 | w::r, i, k+1, h=>by
  simp only[List.take_succ_cons, bx]
  rw[tq r _ k (by simpa using h)]
  simp
theorem MZ {s:Sg} {b:List Int} (hb:rS b) {y w:Int} {d k:Nat} (i:Nat) (h1:1≤w) (h2:w+(d+2:Nat)≤8) (h3:d+2≤3) (hy:4≤y%14) (hy0:0≤y) (hk:k<(jV y w).length):1≤(jV y w).getD k 0∧(jV y w).getD k 0+(d+1:Nat)≤8∧i≤(bx (ak s b (d+1)) ((jV y w).take k) i).2∧(bx (ak s b (d+1)) ((jV y w).take k) i).2+4^(d+1)+1≤i+4^(d+2):=by
 obtain⟨o1, o2, o3, o4, o5⟩:=H2 hy hy0 h1 (by omega:w≤8)
 have hm:(jV y w).getD k 0∈jV y w:=by
  rw[List.getD, List.getElem?_eq_getElem hk];exact List.getElem_mem hk
 have hv:=o4 _ hm
 have hps:=wq (t:=ak s b (d+1)) (n:=4^(d+1)) ((jV y w).take k) i (fun v hv j=>by
  have hh:=o4 v (List.mem_of_mem_take hv)
  exact(wt hb (d+1) j v (by omega) hh.1 (by omega)).2.2)
 have hl:((jV y w).take k).length≤2:=by rw[List.length_take];omega
 have hq:4^(d+1)*((jV y w).take k).length≤4^(d+1)*2:=Nat.mul_le_mul_left _ hl
 have hp:1≤4^(d+1):=Nat.one_le_pow _ _ (by omega)
 have hpow:4^(d+2)=4*4^(d+1):=by rw[Nat.pow_succ];omega
 exact⟨hv.1, by omega, hps.1, by omega⟩
theorem Rd {x:Int} {n:Nat} (h:¬(n:Int)=0):IX (x%(n:Int)) (n:Int):=⟨Int.emod_nonneg x h, Int.emod_lt_of_pos x (by omega)⟩
end Go.Proofs.YtckgpflobhpnpaaGreat
