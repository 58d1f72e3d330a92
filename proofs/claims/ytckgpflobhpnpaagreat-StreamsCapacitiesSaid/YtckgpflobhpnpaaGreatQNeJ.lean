/-
  Package network: what it answers.
-/
import Derived.Test.YtckgpflobhpnpaaGreatQNeI
namespace Go.Proofs.YtckgpflobhpnpaaGreat
open Go.RowKit
set_option linter.unusedVariables false
set_option linter.unusedSimpArgs false
abbrev L8 (c : Ci) : List D := [(dL 6 gL ab c.procs),(dL 5 ee bk c.chans)]
abbrev L9 (s : Ns) : List D := [(dL 2 ca bS s.procs),(dL 1 ac [] s.chans)]
set_option maxRecDepth 100000
abbrev NK (c : Ci) (s : Ns) (cl : ByteArray) : Ct := ⟨74,[(.agg (L8 c)),(.agg (L9 s)),(dS cl)],true,(.tup [(.agg [(dL 2 ca bS ((bv c s (a6 c cl)).procs)),(dL 1 ac [] ((bv c s (a6 c cl)).chans))]),(LB (tab (ay c s (a6 c cl)) c.procs.length))])⟩
theorem Gi (c : Ci) (s : Ns) (cl : ByteArray) (hc : aZ c) (hs : ja c s) (hsm : MS s 4294967296) : CC (NK c s cl) := by
 have hnl := hc.nl
 have hcl := hc.cl
 refine ah.vc (V := TT 8 (CC (KC c s cl)∧TT 6 ((((bv c s (a6 c cl)).procs).map ca = ((bv c s (a6 c cl)).procs).map ca∧((bv c s (a6 c cl)).chans).map ac = ((bv c s (a6 c cl)).chans).map ac∧True)∧(tab (ay c s (a6 c cl)) c.procs.length).map br = (tab (ay c s (a6 c cl)) c.procs.length).map br∧True))) (.f 1 0 <| .f 1 2 <| .w 1 [(3,(KC c s cl).O)] <| .e) Tryz.func74 rfl rfl rfl (by kernel_rfl) ?_
 exact tt ⟨(Ea c s cl hc hs hsm),tt ⟨⟨rfl,rfl,oK⟩,rfl,oK⟩⟩
end Go.Proofs.YtckgpflobhpnpaaGreat
