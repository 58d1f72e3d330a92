/-
  Package network: what it answers.
-/
import Derived.Test.YtckgpflobhpnpaaQNeI
namespace Go.Proofs.Ytckgpflobhpnpaa
open Go.RowKit
set_option linter.unusedVariables false
set_option linter.unusedSimpArgs false
set_option maxRecDepth 100000
abbrev JH (c : Ci) (s : Ns) (cl : ByteArray) : Ct := ⟨36,[(.agg [(dL 6 pU ab c.procs),(dL 5 tu ge c.chans)]),(.agg [(dL 2 bW bK s.procs),(dL 1 aa [] s.chans)]),(dS cl)],true,(.tup [(.agg [(dL 2 bW bK ((bp c s (ba c cl)).procs)),(dL 1 aa [] ((bp c s (ba c cl)).chans))]),(LB (tab (aq c s (ba c cl)) c.procs.length))])⟩
theorem Ds (c : Ci) (s : Ns) (cl : ByteArray) (hc : a8 c) (hs : jt c s) (hsm : IU s 4294967296) : CC (JH c s cl) := by
 have hnl := hc.nl
 have hcl := hc.cl
 refine ai.vc (V := TT 8 (CC (G6 c s cl)∧TT 6 ((((bp c s (ba c cl)).procs).map bW = ((bp c s (ba c cl)).procs).map bW∧((bp c s (ba c cl)).chans).map aa = ((bp c s (ba c cl)).chans).map aa∧True)∧(tab (aq c s (ba c cl)) c.procs.length).map bk = (tab (aq c s (ba c cl)) c.procs.length).map bk∧True))) (.f 1 0 <| .f 1 2 <| .w 1 [(3,(G6 c s cl).O)] <| .e) Try.func36 rfl rfl rfl (by kernel_rfl) ?_
 exact tt ⟨(BC c s cl hc hs hsm),tt ⟨⟨rfl,rfl,oK⟩,rfl,oK⟩⟩
end Go.Proofs.Ytckgpflobhpnpaa
