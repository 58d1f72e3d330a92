/-
  Processes: expressions, processes, states as plain data, and how they lie in memory.
-/
import Derived.Test.YtckgpflobhpnpaaGreatQBitP
namespace Go.Proofs.YtckgpflobhpnpaaGreat
open Go.RowKit
set_option linter.unusedVariables false
set_option linter.unusedSimpArgs false
structure Nm where
 n:Int
 p:ByteArray
structure Ex where
 op:Int
 name:ByteArray
 k:Nm
 w:Nm
 args:List Ex
abbrev e0:ByteArray:=ByteArray.empty
abbrev bs (l:List UInt8):ByteArray:=⟨l.toArray⟩
abbrev dN:Nm:=⟨0, e0⟩
abbrev dE:Ex:=⟨0, e0, dN, dN, []⟩
structure ND where
 kind:Int
 src:ByteArray
 n:Int
structure Rg where
 name:ByteArray
 w:Int
 init:Int
 next:Ex
 rule:ND
structure Mm where
 name:ByteArray
 w:Int
 words:Int
 enable:Ex
 addr:Ex
 data:Ex
 rule:ND
structure Tk where
 chan:Int
 w:Int
 when:Ex
structure Pt where
 chan:Int
 w:Int
 when:Ex
 data:Ex
structure Pr where
 name:ByteArray
 clock:ByteArray
 regs:List Rg
 mems:List Mm
 takes:List Tk
 puts:List Pt
structure Ps where
 regs:List Int
 mems:List (List Int)
structure Hd where
 has:Bool
 v:Int
structure Fi where
 fires:Bool
 s:Ps
 pops:List Bool
 puts:List Hd
abbrev Ko:ND:=⟨0, e0, 0⟩
abbrev cb:Rg:=⟨e0, 0, 0, dE, Ko⟩
abbrev ba:Mm:=⟨e0, 0, 0, dE, dE, dE, Ko⟩
abbrev aK:Tk:=⟨0, 0, dE⟩
abbrev aL:Pt:=⟨0, 0, dE, dE⟩
abbrev aa:Pr:=⟨e0, e0, [], [], [], []⟩
abbrev bB:Ps:=⟨[], []⟩
abbrev aP:Hd:=⟨false, 0⟩
def eA:Nat→Ex→List V
 | 0, _=>[]
 | n+1, e=>[.int .i64 e.op, .str e.name, .int .i64 e.k.n, .str e.k.p, .int .i64 e.w.n, .str e.w.p, .sl 7 (eA n) dE e.args]
def ae (l:List Int):List V:=[.sl 1 (ab .i64) 0 l]
def jq (r:Rg):List V:=[.str r.name, .int .i64 r.w, .int .i64 r.init, .int .i64 r.next.op, .str r.next.name, .int .i64 r.next.k.n, .str r.next.k.p, .int .i64 r.next.w.n, .str r.next.w.p, .sl 7 (eA 2) dE r.next.args, .int .i64 r.rule.kind, .str r.rule.src, .int .i64 r.rule.n]
def tf (r:Mm):List V:=[.str r.name, .int .i64 r.w, .int .i64 r.words, .int .i64 r.enable.op, .str r.enable.name, .int .i64 r.enable.k.n, .str r.enable.k.p, .int .i64 r.enable.w.n, .str r.enable.w.p, .sl 7 (eA 2) dE r.enable.args,
 .int .i64 r.addr.op, .str r.addr.name, .int .i64 r.addr.k.n, .str r.addr.k.p, .int .i64 r.addr.w.n, .str r.addr.w.p, .sl 7 (eA 2) dE r.addr.args,
 .int .i64 r.data.op, .str r.data.name, .int .i64 r.data.k.n, .str r.data.k.p, .int .i64 r.data.w.n, .str r.data.w.p, .sl 7 (eA 2) dE r.data.args, .int .i64 r.rule.kind, .str r.rule.src, .int .i64 r.rule.n]
def jY (r:Tk):List V:=[.int .i64 r.chan, .int .i64 r.w, .int .i64 r.when.op, .str r.when.name, .int .i64 r.when.k.n, .str r.when.k.p, .int .i64 r.when.w.n, .str r.when.w.p, .sl 7 (eA 2) dE r.when.args]
def lM (r:Pt):List V:=[.int .i64 r.chan, .int .i64 r.w, .int .i64 r.when.op, .str r.when.name, .int .i64 r.when.k.n, .str r.when.k.p, .int .i64 r.when.w.n, .str r.when.w.p, .sl 7 (eA 2) dE r.when.args,
 .int .i64 r.data.op, .str r.data.name, .int .i64 r.data.k.n, .str r.data.k.p, .int .i64 r.data.w.n, .str r.data.w.p, .sl 7 (eA 2) dE r.data.args]
def je (p:Pr):List V:=[.str p.name, .str p.clock, .sl 13 jq cb p.regs, .sl 27 tf ba p.mems, .sl 9 jY aK p.takes, .sl 16 lM aL p.puts]
def bw (s:Ps):List V:=[.sl 1 (ab .i64) 0 s.regs, .sl 1 ae [] s.mems]
def bZ (h:Hd):List V:=[.bool h.has, .int .i64 h.v]
def Ik (f:Fi):List V:=[.bool f.fires, .sl 1 (ab .i64) 0 f.s.regs, .sl 1 ae [] f.s.mems, .sl 1 be false f.pops, .sl 2 bZ aP f.puts]
def fS:Ex→Nat
 | ⟨_, _, _, _, args⟩=>depL args+1
where depL:List Ex→Nat
 | []=>0
 | a::r=>max (fS a) (depL r)
end Go.Proofs.YtckgpflobhpnpaaGreat
