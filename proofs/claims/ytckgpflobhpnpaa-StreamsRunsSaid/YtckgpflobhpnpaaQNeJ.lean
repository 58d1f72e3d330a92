/-
  Package network: what it answers.
-/
import Derived.Test.YtckgpflobhpnpaaQNeI
namespace Go.Proofs.Ytckgpflobhpnpaa
open Go.RowKit
set_option linter.unusedVariables false
set_option linter.unusedSimpArgs false
set_option maxRecDepth 100000
abbrev Nj (c : Ci) (s : Ns) (cl : ByteArray) : Ct := ⟨36,[(.agg [(dL 6 iB ac c.procs),(dL 5 gM cb c.chans)]),(.agg [(dL 2 cg bV s.procs),(dL 1 ab [] s.chans)]),(dS cl)],true,(.tup [(.agg [(dL 2 cg bV ((bz c s (bc c cl)).procs)),(dL 1 ab [] ((bz c s (bc c cl)).chans))]),(LB (tab (aA c s (bc c cl)) c.procs.length))])⟩
theorem Gg (c : Ci) (s : Ns) (cl : ByteArray) (hc : a6 c) (hs : jS c s) (hsm : Mz s 4294967296) : CC (Nj c s cl) := by
 have hnl := hc.nl
 have hcl := hc.cl
 refine ai.vc (V := TT 8 (CC (Ks c s cl)∧TT 6 ((((bz c s (bc c cl)).procs).map cg = ((bz c s (bc c cl)).procs).map cg∧((bz c s (bc c cl)).chans).map ab = ((bz c s (bc c cl)).chans).map ab∧True)∧(tab (aA c s (bc c cl)) c.procs.length).map br = (tab (aA c s (bc c cl)) c.procs.length).map br∧True))) (.f 1 0 <| .f 1 2 <| .w 1 [(3,(Ks c s cl).O)] <| .e) Try.func36 rfl rfl rfl (by kernel_rfl) ?_
 exact tt ⟨(Ej c s cl hc hs hsm),tt ⟨⟨rfl,rfl,oK⟩,rfl,oK⟩⟩
end Go.Proofs.Ytckgpflobhpnpaa
