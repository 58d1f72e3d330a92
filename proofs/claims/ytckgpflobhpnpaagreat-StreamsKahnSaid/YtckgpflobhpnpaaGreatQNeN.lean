/-
  Made circuits, plain data.
-/
import Derived.Test.YtckgpflobhpnpaaGreatQNeH
namespace Go.Proofs.YtckgpflobhpnpaaGreat
open Go.RowKit
set_option linter.unusedVariables false
set_option linter.unusedSimpArgs false
structure En where
 takes:List Int
 puts:List Int
def rh (e:En):List V:=[.sl 1 (ab .i64) 0 e.takes, .sl 1 (ab .i64) 0 e.puts]
abbrev cx:En:=⟨[], []⟩
def fu:Ex:=⟨1, e0, ⟨1, e0⟩, ⟨1, e0⟩, []⟩
def aO (s:Sg) (b:List Int) (i:Nat):Ex×Nat:=if b.getD i 0%4=1 then am s b 2 (i+1) 1 else (fu, i+1)
def OO:ByteArray:=bs [97]
def OP:ByteArray:=bs [98]
def OQ (k:Nat):ByteArray:=[bs [114], bs [115]].getD k e0
def Oz (k:Nat):ByteArray:=[bs [112], bs [113], bs [117], bs [118]].getD k e0
def NY (k:Nat):ByteArray:=[bs [99, 48], bs [99, 49], bs [99, 50], bs [99, 51], bs [99, 52]].getD k e0
def bA (y:Int) (k:Nat):Int:=1+(y / 4+k)%2
def su (y:Int):Nat:=(1+y / 2%2).toNat
def Lr (y:Int):List Int:=tab (bA y) (su y)
def Ls (y:Int):Sg:=⟨Lr y, [], [], false⟩
def zN (y:Int) (n:Nat):Sg:=⟨Lr y, List.replicate n 2, [], true⟩
def vi (y:Int) (k:Nat):Rg:=⟨OQ k, bA y k, y / 8%2^(bA y k).toNat, dE, ⟨[1, 1, 0].getD (y / 16%3).toNat 0, e0, 0⟩⟩
def zO (b:List Int) (y:Int) (i:Nat):Nat→Nat
 | 0=>i
 | k+1=>(aO (Ls y) b (zO b y i k)).2
def yf (b:List Int) (y:Int) (n:Nat) (i:Nat):Nat→Nat
 | 0=>i
 | k+1=>(am (zN y n) b 3 (yf b y n i k) (bA y k)).2
def vj (b:List Int) (y:Int) (n:Nat) (i:Nat):Nat→Nat
 | 0=>i
 | k+1=>(am (zN y n) b 2 (aO (zN y n) b (vj b y n i k)).2 2).2
def EP (b:List Int) (y:Int) (i:Nat) (e:En) (k:Nat):Tk:=⟨e.takes.getD k 0, 2, (aO (Ls y) b (zO b y i k)).1⟩
def NZ (b:List Int) (y:Int) (n i k:Nat):Rg:={ vi y k with next:=(am (zN y n) b 3 (yf b y n i k) (bA y k)).1 }
def Hz (b:List Int) (y:Int) (n i:Nat) (e:En) (k:Nat):Pt:=⟨e.puts.getD k 0, 2, (aO (zN y n) b (vj b y n i k)).1, (am (zN y n) b 2 (aO (zN y n) b (vj b y n i k)).2 2).1⟩
def N0 (y:Int):ByteArray:=[OO, OP].getD (y%2).toNat e0
def mQ (b:List Int) (i:Nat) (e:En):Nat:=zO b (b.getD i 0) (i+1) e.takes.length
def lQ (b:List Int) (i:Nat) (e:En):Nat:=yf b (b.getD i 0) e.takes.length (mQ b i e) (su (b.getD i 0))
def bp (b:List Int) (i:Nat) (nm:ByteArray) (e:En):Pr×Nat :=
 (⟨nm, N0 (b.getD i 0), tab (NZ b (b.getD i 0) e.takes.length (mQ b i e)) (su (b.getD i 0)), [], tab (EP b (b.getD i 0) (i+1) e) e.takes.length, tab (Hz b (b.getD i 0) e.takes.length (lQ b i e) e) e.puts.length⟩,
  vj b (b.getD i 0) e.takes.length (lQ b i e) e.puts.length)
def ah (s:Int):List En :=
 if s%6=0 then [⟨[0], [1]⟩]
 else if s%6=1 then [⟨[0], [1]⟩, ⟨[1], [2]⟩]
 else if s%6=2 then [⟨[0], [1, 2]⟩, ⟨[1], [3]⟩, ⟨[2], [4]⟩]
 else if s%6=3 then [⟨[0, 2], [1]⟩, ⟨[1], [2, 3]⟩]
 else if s%6=4 then [⟨[0], [2]⟩, ⟨[1], [3]⟩, ⟨[2, 3], [4]⟩]
 else [⟨[0], [1]⟩, ⟨[1], [2]⟩, ⟨[2], [3]⟩, ⟨[3], [4]⟩]
theorem yg {s:Sg} {b:List Int} {i:Nat} (h:b.getD i 0%4=1):aO s b i=am s b 2 (i+1) 1:=if_pos h
theorem yh {s:Sg} {b:List Int} {i:Nat} (h:¬b.getD i 0%4=1):aO s b i=(fu, i+1):=if_neg h
def ti (l:List Int) (n:Int):Bool:=!dF (fun i=>!decide (l.getD i 0=n)) l.length
theorem zP {l:List Int} {n:Int} {i:Nat} (hi:i<l.length) (h:l.getD i 0=n):ti l n=true:=by
 unfold ti;rw[kQ hi (by rw[decide_eq_true h];rfl)];rfl
theorem Df {l:List Int} {n:Int} (h:∀i, i<l.length→¬l.getD i 0=n):ti l n=false:=by
 unfold ti;rw[cf.2 (fun i hi=>by rw[decide_eq_false (h i hi)];rfl)];rfl
theorem wY {x w:Int} (h0:0≤w) (h6:w≤62):IntKind.wrap .i64 ((BitVec.ofInt (IntKind.i64).bits x &&& BitVec.ofInt (IntKind.i64).bits (ap w)).toNat:Int)=x%2^w.toNat:=by
 rw[dq h0 h6];exact mm (by omega)
theorem yi {s:Sg} {b:List Int} (hb:qe b) {d i:Nat} {w:Int} (hd:d≤3) (h1:1≤w) (h2:w+d≤8):i≤(am s b d i w).2∧(am s b d i w).2≤i+64:=by
 have h:=(u1 (s:=s) hb d i w hd h1 h2).2.2
 have:4^d≤4^3:=Nat.pow_le_pow_right (by omega) hd
 omega
theorem vk {s:Sg} {b:List Int} (hb:qe b) {i:Nat}:i≤(aO s b i).2∧(aO s b i).2≤i+100:=by
 unfold aO
 split
 ·have:=yi (s:=s) hb (d:=2) (i:=i+1) (w:=1) (by omega) (by omega) (by omega);omega
 ·simp only;omega
theorem yj (y:Int) (k:Nat):1≤bA y k∧bA y k≤2:=by unfold bA;omega
theorem tP {b:List Int} (hb:qe b) (y:Int) (i:Nat):∀k, i≤zO b y i k∧zO b y i k≤i+100*k
 | 0=>⟨Nat.le_refl _, Nat.le_refl _⟩
 | k+1=>by
  have h1:=tP hb y i k
  have h2:=vk (s:=Ls y) hb (i:=zO b y i k)
  rw[zO];omega
theorem tQ {b:List Int} (hb:qe b) (y:Int) (n i:Nat):∀k, i≤yf b y n i k∧yf b y n i k≤i+100*k
 | 0=>⟨Nat.le_refl _, Nat.le_refl _⟩
 | k+1=>by
  have h1:=tQ hb y n i k
  have h3:=yj y k
  have h2:=yi (s:=zN y n) hb (d:=3) (i:=yf b y n i k) (w:=bA y k) (by omega) (by omega) (by omega)
  rw[yf];omega
theorem yk {b:List Int} (hb:qe b) (y:Int) (n i:Nat):∀k, i≤vj b y n i k∧vj b y n i k≤i+200*k
 | 0=>⟨Nat.le_refl _, Nat.le_refl _⟩
 | k+1=>by
  have h1:=yk hb y n i k
  have h3:=vk (s:=zN y n) hb (i:=vj b y n i k)
  have h2:=yi (s:=zN y n) hb (d:=2) (i:=(aO (zN y n) b (vj b y n i k)).2) (w:=2) (by omega) (by omega) (by omega)
  rw[vj];omega
theorem Bv {y:Int} (h:0≤y):(su y:Int)=1+y / 2%2∧su y≤2:=by unfold su;omega
def EA (b:List Int) (l:List En):Nat→Nat
 | 0=>0
 | i+1=>(bp b (EA b l i) (Oz i) (l.getD i cx)).2
def rD (b:List Int) (l:List En) (i:Nat):Pr:=(bp b (EA b l i) (Oz i) (l.getD i cx)).1
def Ml (l:List Int) (a:Int):Nat→Int
 | 0=>a
 | k+1=>JP (Ml l a k) (l.getD k 0)
def ri (l:List En):Nat→Int
 | 0=>0
 | i+1=>Ml (l.getD i cx).puts (ri l i) (l.getD i cx).puts.length
def yM (l:List En) (n:Int):Nat→Int
 | 0=>-1
 | i+1=>if ti (l.getD i cx).takes n=true then (i:Int)else yM l n i
def yN (l:List En) (n:Int):Nat→Int
 | 0=>-1
 | i+1=>if ti (l.getD i cx).puts n=true then (i:Int)else yN l n i
def vl (sh:Int) (l:List En) (n:Nat):Ch:=⟨NY n, 2, if 0≤yN l n l.length∧0≤yM l n l.length then 1+(sh / 6+n)%3 else 0, yN l n l.length, yM l n l.length⟩
def kf (sh:Int):Nat:=(ri (ah sh) (ah sh).length).toNat+1
def ac (sh:Int) (b:List Int):Ci:=⟨tab (rD b (ah sh)) (ah sh).length, tab (vl sh (ah sh)) (kf sh)⟩
theorem iY (sh:Int):ah sh=[⟨[0], [1]⟩]∨ah sh=[⟨[0], [1]⟩, ⟨[1], [2]⟩]∨ah sh=[⟨[0], [1, 2]⟩, ⟨[1], [3]⟩, ⟨[2], [4]⟩]∨ah sh=[⟨[0, 2], [1]⟩, ⟨[1], [2, 3]⟩]∨ah sh=[⟨[0], [2]⟩, ⟨[1], [3]⟩, ⟨[2, 3], [4]⟩]∨ah sh=[⟨[0], [1]⟩, ⟨[1], [2]⟩, ⟨[2], [3]⟩, ⟨[3], [4]⟩]:=by
 unfold ah
 split
 ·exact .inl rfl
 split
 ·exact .inr (.inl rfl)
 split
 ·exact .inr (.inr (.inl rfl))
 split
 ·exact .inr (.inr (.inr (.inl rfl)))
 split
 ·exact .inr (.inr (.inr (.inr (.inl rfl))))
 ·exact .inr (.inr (.inr (.inr (.inr rfl))))
theorem zQ (sh:Int):1≤(ah sh).length∧(ah sh).length≤4:=by
 rcases iY sh with h | h | h | h | h | h<;>rw[h]<;>decide
theorem n9 (sh:Int) (i:Nat):((ah sh).getD i cx).takes.length≤2∧((ah sh).getD i cx).puts.length≤2:=by
 have key:∀e∈ah sh, e.takes.length≤2∧e.puts.length≤2:=by
  rcases iY sh with h | h | h | h | h | h<;>rw[h]<;>simp
 by_cases hi:i<(ah sh).length
 ·rw[d9 _ _ hi];exact key _ (List.getElem_mem hi)
 ·rw[List.getD, List.getElem?_eq_none (by omega)];decide
theorem Dg (sh:Int):0≤ri (ah sh) (ah sh).length∧ri (ah sh) (ah sh).length≤4:=by
 rcases iY sh with h | h | h | h | h | h<;>rw[h]<;>decide
theorem GI (sh:Int):(kf sh:Int)=ri (ah sh) (ah sh).length+1∧kf sh≤5:=by
 have:=Dg sh;unfold kf;omega
theorem Dh {b:List Int} (hb:qe b) (sh:Int):∀i, EA b (ah sh) i≤1000*i
 | 0=>Nat.le_refl _
 | i+1=>by
  have h1:=Dh hb sh i
  have he:=n9 sh i
  rw[EA]
  unfold bp
  simp only
  generalize EA b (ah sh) i=p at *
  generalize (ah sh).getD i cx=e at *
  have hy:=eh hb p
  have hn:=Bv hy.1
  have a1:p+1≤mQ b p e∧mQ b p e≤p+1+100*e.takes.length:=tP hb (b.getD p 0) (p+1) e.takes.length
  have a2:mQ b p e≤lQ b p e∧lQ b p e≤mQ b p e+100*su (b.getD p 0):=tQ hb (b.getD p 0) e.takes.length (mQ b p e) (su (b.getD p 0))
  have a3:=yk hb (b.getD p 0) e.takes.length (lQ b p e) e.puts.length
  omega
theorem GJ (l:List En) (n:Int):∀i, -1≤yM l n i∧yM l n i<i
 | 0=>by simp[yM]
 | i+1=>by have:=GJ l n i;rw[yM];split<;>omega
theorem Bw (l:List En) (n:Int):∀i, -1≤yN l n i∧yN l n i<i
 | 0=>by simp[yN]
 | i+1=>by have:=Bw l n i;rw[yN];split<;>omega
theorem Jx {x:Int} (h0:0≤x) (h1:x≤255):IntKind.wrap .u8 x=x:=Ou rfl h0 h1
def mR (b:List Int) (i:Nat) (w:Int) (k:Nat):Int:=b.getD (i+(1+k)) 0%2^w.toNat
theorem N1 {x:Int} (h0:0≤x) (h1:x≤255):IntKind.wrap .u8 (Int.tdiv x 6)=x / 6:=by
 rw[Int.tdiv_eq_ediv_of_nonneg h0];exact Jx (by omega) (by omega)
theorem GK {sh:Int} {l:List En} {n:Nat} {fr to:Int} (h1:0≤yN l n l.length) (h2:0≤yM l n l.length) (h3:fr=yN l n l.length) (h4:to=yM l n l.length):(⟨NY n, 2, 1+(sh / 6+n)%3, fr, to⟩:Ch)=vl sh l n:=by
 unfold vl;rw[if_pos ⟨h1, h2⟩, h3, h4]
theorem GL {sh:Int} {l:List En} {n:Nat} {fr to:Int} (h:¬(0≤yN l n l.length∧0≤yM l n l.length)) (h3:fr=yN l n l.length) (h4:to=yM l n l.length):(⟨NY n, 2, 0, fr, to⟩:Ch)=vl sh l n:=by
 unfold vl;rw[if_neg h, h3, h4]
end Go.Proofs.YtckgpflobhpnpaaGreat
