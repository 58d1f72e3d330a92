/-
  Slices of numbers that read as lists, and small laws on them. Generic: over any program.
-/
import Derived.Test.YtckgpflobhpnpaaGreatQReg
import Derived.WalkSpells
import Derived.Lib.Hide
import Derived.WalkLawsBesides
namespace Go.Proofs.YtckgpflobhpnpaaGreat
open Go.RowKit
abbrev EM (k:IntKind) (x:Int):Prop:=(Lit.int k x).wf=true
def xc {α:Type} (enc:α→Value) (S:Nat→Prop) (w:World) (v:Value) (l:List α):Prop :=
 ∃(p:Option Addr) (c:Nat), v=.slice p l.length c∧l.length≤c∧c≤maxLen∧(p=none→c=0) ∧
  (0<l.length→∃b off, p=some ⟨b, off, none⟩∧S b∧b<w.heap.size∧∀(i:Nat) (x:α), l[i]?=some x→w.cell? ⟨b, off+i, none⟩=some (enc x))
theorem xc.stable {α:Type} (enc:α→Value) (l:List α):fW (fun S v w=>xc enc S w v l):=by
 rintro S S' v w w' ⟨p, c, rfl, h1, h2, h3, h4⟩ hS hw hsz
 refine⟨p, c, rfl, h1, h2, h3, fun h0=>?_⟩
 obtain⟨b, off, rfl, q1, q2, q3⟩:=h4 h0
 refine⟨b, off, rfl, hS b q1 q2, by omega, fun i x hx=>?_⟩
 rw[← q3 i x hx]
 exact World.cell?_of_block (hw b q1 q2)
theorem xc.mono {α:Type} {enc:α→Value} {l:List α} {S S':Nat→Prop} {w w':World} {v:Value} (h:xc enc S w v l) (hS:∀b, S b→b<w.heap.size→S' b)
  (hb:Below w.heap.size w w'):xc enc S' w' v l:=xc.stable enc l S S' v w w' h hS (fun b _ hb'=>hb.block b hb') hb.size
end Go.Proofs.YtckgpflobhpnpaaGreat
