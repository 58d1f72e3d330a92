/-
  Made circuits, plain data.
-/
import Derived.Test.YtckgpflobhpnpaaGreatQNeK
namespace Go.Proofs.YtckgpflobhpnpaaGreat
open Go.RowKit
set_option linter.unusedVariables false
set_option linter.unusedSimpArgs false
structure En where
 takes:List Int
 puts:List Int
def ss (e:En):List V:=[.sl 1 (ae .i64) 0 e.takes, .sl 1 (ae .i64) 0 e.puts]
abbrev cN:En:=⟨[], []⟩
def fM:Ex:=⟨1, e0, ⟨1, e0⟩, ⟨1, e0⟩, []⟩
def aN (s:Sg) (b:List Int) (i:Nat):Ex×Nat:=if b.getD i 0%4=1 then ak s b 2 (i+1) 1 else (fM, i+1)
def Rf:ByteArray:=bs [97]
def Rh:ByteArray:=bs [98]
def Ri (k:Nat):ByteArray:=[bs [114], bs [115]].getD k e0
def Q4 (k:Nat):ByteArray:=[bs [112], bs [113], bs [117], bs [118]].getD k e0
def Qv (k:Nat):ByteArray:=[bs [99, 48], bs [99, 49], bs [99, 50], bs [99, 51], bs [99, 52]].getD k e0
def bJ (y:Int) (k:Nat):Int:=1+(y / 4+k)%2
def tI (y:Int):Nat:=(1+y / 2%2).toNat
def NY (y:Int):List Int:=tab (bJ y) (tI y)
def NZ (y:Int):Sg:=⟨NY y, [], [], false⟩
def Bv (y:Int) (n:Nat):Sg:=⟨NY y, List.replicate n 2, [], true⟩
def wQ (y:Int) (k:Nat):Rg:=⟨Ri k, bJ y k, y / 8%2^(bJ y k).toNat, dE, ⟨[1, 1, 0].getD (y / 16%3).toNat 0, e0, 0⟩⟩
def Bw (b:List Int) (y:Int) (i:Nat):Nat→Nat
 | 0=>i
 | k+1=>(aN (NZ y) b (Bw b y i k)).2
def zS (b:List Int) (y:Int) (n:Nat) (i:Nat):Nat→Nat
 | 0=>i
 | k+1=>(ak (Bv y n) b 3 (zS b y n i k) (bJ y k)).2
def wR (b:List Int) (y:Int) (n:Nat) (i:Nat):Nat→Nat
 | 0=>i
 | k+1=>(ak (Bv y n) b 2 (aN (Bv y n) b (wR b y n i k)).2 2).2
def GS (b:List Int) (y:Int) (i:Nat) (e:En) (k:Nat):Tk:=⟨e.takes.getD k 0, 2, (aN (NZ y) b (Bw b y i k)).1⟩
def Qw (b:List Int) (y:Int) (n i k:Nat):Rg:={ wQ y k with next:=(ak (Bv y n) b 3 (zS b y n i k) (bJ y k)).1 }
def JY (b:List Int) (y:Int) (n i:Nat) (e:En) (k:Nat):Pt:=⟨e.puts.getD k 0, 2, (aN (Bv y n) b (wR b y n i k)).1, (ak (Bv y n) b 2 (aN (Bv y n) b (wR b y n i k)).2 2).1⟩
def Qx (y:Int):ByteArray:=[Rf, Rh].getD (y%2).toNat e0
def od (b:List Int) (i:Nat) (e:En):Nat:=Bw b (b.getD i 0) (i+1) e.takes.length
def m4 (b:List Int) (i:Nat) (e:En):Nat:=zS b (b.getD i 0) e.takes.length (od b i e) (tI (b.getD i 0))
def bz (b:List Int) (i:Nat) (nm:ByteArray) (e:En):Pr×Nat :=
 (⟨nm, Qx (b.getD i 0), tab (Qw b (b.getD i 0) e.takes.length (od b i e)) (tI (b.getD i 0)), [], tab (GS b (b.getD i 0) (i+1) e) e.takes.length, tab (JY b (b.getD i 0) e.takes.length (m4 b i e) e) e.puts.length⟩,
  wR b (b.getD i 0) e.takes.length (m4 b i e) e.puts.length)
def ai (s:Int):List En :=
 if s%6=0 then [⟨[0], [1]⟩]
 else if s%6=1 then [⟨[0], [1]⟩, ⟨[1], [2]⟩]
 else if s%6=2 then [⟨[0], [1, 2]⟩, ⟨[1], [3]⟩, ⟨[2], [4]⟩]
 else if s%6=3 then [⟨[0, 2], [1]⟩, ⟨[1], [2, 3]⟩]
 else if s%6=4 then [⟨[0], [2]⟩, ⟨[1], [3]⟩, ⟨[2, 3], [4]⟩]
 else [⟨[0], [1]⟩, ⟨[1], [2]⟩, ⟨[2], [3]⟩, ⟨[3], [4]⟩]
theorem zT {s:Sg} {b:List Int} {i:Nat} (h:b.getD i 0%4=1):aN s b i=ak s b 2 (i+1) 1:=if_pos h
theorem zU {s:Sg} {b:List Int} {i:Nat} (h:¬b.getD i 0%4=1):aN s b i=(fM, i+1):=if_neg h
def uI (l:List Int) (n:Int):Bool:=!dG (fun i=>!decide (l.getD i 0=n)) l.length
theorem Bx {l:List Int} {n:Int} {i:Nat} (hi:i<l.length) (h:l.getD i 0=n):uI l n=true:=by
 unfold uI;rw[fI hi (by rw[decide_eq_true h];rfl)];rfl
theorem Fd {l:List Int} {n:Int} (h:∀i, i<l.length→¬l.getD i 0=n):uI l n=false:=by
 unfold uI;rw[bL.2 (fun i hi=>by rw[decide_eq_false (h i hi)];rfl)];rfl
theorem yA {x w:Int} (h0:0≤w) (h6:w≤62):IntKind.wrap .i64 ((BitVec.ofInt (IntKind.i64).bits x &&& BitVec.ofInt (IntKind.i64).bits (an w)).toNat:Int)=x%2^w.toNat:=by
 rw[db h0 h6];exact nx (by omega)
theorem zV {s:Sg} {b:List Int} (hb:rS b) {d i:Nat} {w:Int} (hd:d≤3) (h1:1≤w) (h2:w+d≤8):i≤(ak s b d i w).2∧(ak s b d i w).2≤i+64:=by
 have h:=(wt (s:=s) hb d i w hd h1 h2).2.2
 have:4^d≤4^3:=Nat.pow_le_pow_right (by omega) hd
 omega
theorem wS {s:Sg} {b:List Int} (hb:rS b) {i:Nat}:i≤(aN s b i).2∧(aN s b i).2≤i+100:=by
 unfold aN
 split
 ·have:=zV (s:=s) hb (d:=2) (i:=i+1) (w:=1) (by omega) (by omega) (by omega);omega
 ·simp only;omega
theorem zW (y:Int) (k:Nat):1≤bJ y k∧bJ y k≤2:=by unfold bJ;omega
theorem vk {b:List Int} (hb:rS b) (y:Int) (i:Nat):∀k, i≤Bw b y i k∧Bw b y i k≤i+100*k
 | 0=>⟨Nat.le_refl _, Nat.le_refl _⟩
 | k+1=>by
  have h1:=vk hb y i k
  have h2:=wS (s:=NZ y) hb (i:=Bw b y i k)
  rw[Bw];omega
theorem vl {b:List Int} (hb:rS b) (y:Int) (n i:Nat):∀k, i≤zS b y n i k∧zS b y n i k≤i+100*k
 | 0=>⟨Nat.le_refl _, Nat.le_refl _⟩
 | k+1=>by
  have h1:=vl hb y n i k
  have h3:=zW y k
  have h2:=zV (s:=Bv y n) hb (d:=3) (i:=zS b y n i k) (w:=bJ y k) (by omega) (by omega) (by omega)
  rw[zS];omega
theorem zX {b:List Int} (hb:rS b) (y:Int) (n i:Nat):∀k, i≤wR b y n i k∧wR b y n i k≤i+200*k
 | 0=>⟨Nat.le_refl _, Nat.le_refl _⟩
 | k+1=>by
  have h1:=zX hb y n i k
  have h3:=wS (s:=Bv y n) hb (i:=wR b y n i k)
  have h2:=zV (s:=Bv y n) hb (d:=2) (i:=(aN (Bv y n) b (wR b y n i k)).2) (w:=2) (by omega) (by omega) (by omega)
  rw[wR];omega
theorem Dr {y:Int} (h:0≤y):(tI y:Int)=1+y / 2%2∧tI y≤2:=by unfold tI;omega
def GA (b:List Int) (l:List En):Nat→Nat
 | 0=>0
 | i+1=>(bz b (GA b l i) (Q4 i) (l.getD i cN)).2
def sO (b:List Int) (l:List En) (i:Nat):Pr:=(bz b (GA b l i) (Q4 i) (l.getD i cN)).1
def OQ (l:List Int) (a:Int):Nat→Int
 | 0=>a
 | k+1=>Mg (OQ l a k) (l.getD k 0)
def su (l:List En):Nat→Int
 | 0=>0
 | i+1=>OQ (l.getD i cN).puts (su l i) (l.getD i cN).puts.length
def yB (l:List En) (n:Int):Nat→Int
 | 0=>-1
 | i+1=>if uI (l.getD i cN).takes n=true then (i:Int)else yB l n i
def yC (l:List En) (n:Int):Nat→Int
 | 0=>-1
 | i+1=>if uI (l.getD i cN).puts n=true then (i:Int)else yC l n i
def uJ (sh:Int) (l:List En) (n:Nat):Ch:=⟨Qv n, 2, if 0≤yC l n l.length∧0≤yB l n l.length then 1+(sh / 6+n)%3 else 0, yC l n l.length, yB l n l.length⟩
def jH (sh:Int):Nat:=(su (ai sh) (ai sh).length).toNat+1
def aa (sh:Int) (b:List Int):Ci:=⟨tab (sO b (ai sh)) (ai sh).length, tab (uJ sh (ai sh)) (jH sh)⟩
theorem jp (sh:Int):ai sh=[⟨[0], [1]⟩]∨ai sh=[⟨[0], [1]⟩, ⟨[1], [2]⟩]∨ai sh=[⟨[0], [1, 2]⟩, ⟨[1], [3]⟩, ⟨[2], [4]⟩]∨ai sh=[⟨[0, 2], [1]⟩, ⟨[1], [2, 3]⟩]∨ai sh=[⟨[0], [2]⟩, ⟨[1], [3]⟩, ⟨[2, 3], [4]⟩]∨ai sh=[⟨[0], [1]⟩, ⟨[1], [2]⟩, ⟨[2], [3]⟩, ⟨[3], [4]⟩]:=by
 unfold ai
 split
 ·exact .inl rfl
 split
 ·exact .inr (.inl rfl)
 split
 ·exact .inr (.inr (.inl rfl))
 split
 ·exact .inr (.inr (.inr (.inl rfl)))
 split
 ·exact .inr (.inr (.inr (.inr (.inl rfl))))
 ·exact .inr (.inr (.inr (.inr (.inr rfl))))
theorem Bz (sh:Int):1≤(ai sh).length∧(ai sh).length≤4:=by
 rcases jp sh with h | h | h | h | h | h<;>rw[h]<;>decide
theorem pk (sh:Int) (i:Nat):((ai sh).getD i cN).takes.length≤2∧((ai sh).getD i cN).puts.length≤2:=by
 have key:∀e∈ai sh, e.takes.length≤2∧e.puts.length≤2:=by
  rcases jp sh with h | h | h | h | h | h<;>rw[h]<;>simp
 by_cases hi:i<(ai sh).length
 ·rw[d9 _ _ hi];exact key _ (List.getElem_mem hi)
 ·rw[List.getD, List.getElem?_eq_none (by omega)];decide
theorem Fe (sh:Int):0≤su (ai sh) (ai sh).length∧su (ai sh) (ai sh).length≤4:=by
 rcases jp sh with h | h | h | h | h | h<;>rw[h]<;>decide
theorem I4 (sh:Int):(jH sh:Int)=su (ai sh) (ai sh).length+1∧jH sh≤5:=by
 have:=Fe sh;unfold jH;omega
theorem Ff {b:List Int} (hb:rS b) (sh:Int):∀i, GA b (ai sh) i≤1000*i
 | 0=>Nat.le_refl _
 | i+1=>by
  have h1:=Ff hb sh i
  have he:=pk sh i
  rw[GA]
  unfold bz
  simp only
  generalize GA b (ai sh) i=p at *
  generalize (ai sh).getD i cN=e at *
  have hy:=eY hb p
  have hn:=Dr hy.1
  have a1:p+1≤od b p e∧od b p e≤p+1+100*e.takes.length:=vk hb (b.getD p 0) (p+1) e.takes.length
  have a2:od b p e≤m4 b p e∧m4 b p e≤od b p e+100*tI (b.getD p 0):=vl hb (b.getD p 0) e.takes.length (od b p e) (tI (b.getD p 0))
  have a3:=zX hb (b.getD p 0) e.takes.length (m4 b p e) e.puts.length
  omega
theorem Ds (l:List En) (n:Int):∀i, -1≤yB l n i∧yB l n i<i
 | 0=>by simp[yB]
 | i+1=>by have:=Ds l n i;rw[yB];split<;>omega
theorem Dt (l:List En) (n:Int):∀i, -1≤yC l n i∧yC l n i<i
 | 0=>by simp[yC]
 | i+1=>by have:=Dt l n i;rw[yC];split<;>omega
theorem L0 {x:Int} (h0:0≤x) (h1:x≤255):IntKind.wrap .u8 x=x:=QY rfl h0 h1
def oe (b:List Int) (i:Nat) (w:Int) (k:Nat):Int:=b.getD (i+(1+k)) 0%2^w.toNat
theorem Qy {x:Int} (h0:0≤x) (h1:x≤255):IntKind.wrap .u8 (Int.tdiv x 6)=x / 6:=by
 rw[Int.tdiv_eq_ediv_of_nonneg h0];exact L0 (by omega) (by omega)
theorem I5 {sh:Int} {l:List En} {n:Nat} {fr to:Int} (h1:0≤yC l n l.length) (h2:0≤yB l n l.length) (h3:fr=yC l n l.length) (h4:to=yB l n l.length):(⟨Qv n, 2, 1+(sh / 6+n)%3, fr, to⟩:Ch)=uJ sh l n:=by
 unfold uJ;rw[if_pos ⟨h1, h2⟩, h3, h4]
theorem I6 {sh:Int} {l:List En} {n:Nat} {fr to:Int} (h:¬(0≤yC l n l.length∧0≤yB l n l.length)) (h3:fr=yC l n l.length) (h4:to=yB l n l.length):(⟨Qv n, 2, 0, fr, to⟩:Ch)=uJ sh l n:=by
 unfold uJ;rw[if_neg h, h3, h4]
end Go.Proofs.YtckgpflobhpnpaaGreat
