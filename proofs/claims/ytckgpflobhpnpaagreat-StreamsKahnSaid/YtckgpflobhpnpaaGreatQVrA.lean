/-
  The reference of package bits, at valid operations.
-/
import Derived.Test.YtckgpflobhpnpaaGreatQVbM
namespace Go.Proofs.YtckgpflobhpnpaaGreat
open Go.RowKit
set_option linter.unusedVariables false
set_option linter.unusedSimpArgs false
set_option maxRecDepth 100000
abbrev MA (w:Int):Ct:=⟨37,[(i6 w)],false,(i6 (ap w))⟩
theorem Ab (w:Int):CC (MA w):=by
 refine ai.vc (V:=TT 1 (CS (w<0) (TT 2 ((True∧(decide (w<0))=true)∧TT 5 ((0:Int)=(ap w)∧True))) (TT 2 ((True∧(decide (w<0))=false)∧TT 3 (CD (w>62) (TT 2 ((0:Int)=(ap w)∧True)) (TT 1 ((True∧IntKind.u64.wrap w=w)∧SH w∧W6 ((2^w.toNat)-1)∧TT 2 (((2^w.toNat)-1)=(ap w)∧True)))))))) (.s 1 (w<0) (.w 1 [(2,.val (dB true))]<|.e) (.w 1 [(2,.val (dB false))]<|.b 8 (.e) (.w 3 [(1,.val (dI .u64 w)),(2,.val (i6 (2^w.toNat))),(3,.val (i6 ((2^w.toNat)-1)))]<|.e))) Tryz.func37 rfl rfl rfl (by kernel_rfl) ?_
 refine tt ⟨fun hs0=>?_,fun hs0=>?_⟩
 · refine tt ⟨(vT hs0),tt ⟨?_,oK⟩⟩
   unfold ap;first | exact(if_pos (by omega)).symm | exact(if_neg (by omega)).symm
 · refine tt ⟨(vF hs0),tt (cd (fun hc8=>?_) (fun hc8=>?_))⟩
   · refine tt ⟨?_,oK⟩
     unfold ap;first | exact(if_pos (by omega)).symm | exact(if_neg (by omega)).symm
   · refine tt ⟨⟨oK,JU rfl om om⟩,⟨sh,⟨(w6 (by have:=mr (n:=w.toNat) (by omega);omega) (by have:=mr (n:=w.toNat) (by omega);omega)),tt ⟨?_,oK⟩⟩⟩⟩
     unfold ap;first | exact(if_pos (by omega)).symm | exact(if_neg (by omega)).symm
end Go.Proofs.YtckgpflobhpnpaaGreat
