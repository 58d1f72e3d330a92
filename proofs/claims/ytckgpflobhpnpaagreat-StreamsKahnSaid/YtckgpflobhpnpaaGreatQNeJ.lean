/-
  Package network: what it answers.
-/
import Derived.Test.YtckgpflobhpnpaaGreatQNeI
namespace Go.Proofs.YtckgpflobhpnpaaGreat
open Go.RowKit
set_option linter.unusedVariables false
set_option linter.unusedSimpArgs false
abbrev Mg (c:Ci):List D:=[(dL 6 je aa c.procs),(dL 5 gO ck c.chans)]
abbrev Mh (s:Ns):List D:=[(dL 2 bw bB s.procs),(dL 1 ae [] s.chans)]
set_option maxRecDepth 100000
abbrev NX (c:Ci) (s:Ns) (cl:ByteArray):Ct:=⟨74,[(.agg (Mg c)),(.agg (Mh s)),(dS cl)],true,(.tup [(.agg [(dL 2 bw bB ((bD c s (bh c cl)).procs)),(dL 1 ae [] ((bD c s (bh c cl)).chans))]),(LB (tab (aA c s (bh c cl)) c.procs.length))])⟩
theorem Gy (c:Ci) (s:Ns) (cl:ByteArray) (hc:a6 c) (hs:j6 c s) (hsm:M3 s 4294967296):CC (NX c s cl):=by
 have hnl:=hc.nl
 have hcl:=hc.cl
 refine ai.vc (V:=TT 8 (CC (KQ c s cl)∧TT 6 ((((bD c s (bh c cl)).procs).map bw=((bD c s (bh c cl)).procs).map bw∧((bD c s (bh c cl)).chans).map ae=((bD c s (bh c cl)).chans).map ae∧True)∧(tab (aA c s (bh c cl)) c.procs.length).map be=(tab (aA c s (bh c cl)) c.procs.length).map be∧True))) (.f 1 0<|.f 1 2<|.w 1 [(3,(KQ c s cl).O)]<|.e) Tryz.func74 rfl rfl rfl (by kernel_rfl) ?_
 exact tt ⟨(Ez c s cl hc hs hsm),tt ⟨⟨rfl,rfl,oK⟩,rfl,oK⟩⟩
end Go.Proofs.YtckgpflobhpnpaaGreat
