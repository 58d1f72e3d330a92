/-
  The laws of streams: greater capacities.
-/
import Derived.Test.YtckgpflobhpnpaaGreatQSuE
import Derived.Test.YtckgpflobhpnpaaGreatQStW
namespace Go.Proofs.YtckgpflobhpnpaaGreat
open Go.RowKit
set_option linter.unusedVariables false
set_option linter.unusedSimpArgs false
set_option maxRecDepth 100000
abbrev Oa (c : Ci) (b : List Int) : Ct := ⟨24,[(.agg [(dL 6 gL ab c.procs),(dL 5 ee bk c.chans)]),(LY b)],true,(.agg [(dL 6 gL ab ((bE c b).procs)),(dL 5 ee bk ((bE c b).chans))])⟩
abbrev mS (c : Ci) (b : List Int) : Lp (Nat × List Ch) := wk [1,4,5,6] 4 (fun (i : Nat) (hh : List Ch) => ⟨[(1,(LY b)),(4,(.ptr 1 0 0 0)),(5,(.ptr 2 0 0 0)),(6,(i6 (i : Int)))],[(.var 33 [(dL 6 gL ab c.procs),(dL 5 ee bk c.chans)]),(.var 33 [.nils,.nils]),(.var 33 [(dL 6 gL ab c.procs),(.own 3)]),(.arr 78 5 ee bk hh)]⟩) (fun (i : Nat) (hh : List Ch) => i ≤ c.chans.length∧i ≤ b.length∧hh = ci (Lb c b) c.chans i) (fun (i : Nat) (hh : List Ch) => c.chans.length - i)
theorem Hh (c : Ci) (b : List Int) (hc : aZ c) (hb : lK b) (h8 : ∀ n,n < c.chans.length → (cr c n).cap ≤ 8) : CC (Oa c b) := by
 have hnl := hc.nl
 have hcl := hc.cl
 refine ah.vc (V := TT 5 (an [] (([] : List Ch).map ee)∧TT 2 ((([] : List Ch).length + (c.chans.map ee).length ≤ 137438953472∧([] : List Ch).map ee ++ c.chans.map ee = c.chans.map ee)∧TT 3 (GO (mS c b) (0,c.chans) (∀ i hh,(mS c b).inv (i,hh) → CS ((i : Int) < (hh.length : Int)) (TT 5 ((True∧(decide ((i : Int) < (hh.length : Int))) = true)∧TT 5 (CD ((i : Int) < (b.length : Int)) (TT 3 (IX (i : Int) hh.length∧TT 1 (((i < hh.length∧True)∧((hh.getD i bk).cap) = ((c.chans.getD i bk).cap))∧TT 1 (CD (((c.chans.getD i bk).cap) > 0) (TT 6 (IX (i : Int) hh.length∧TT 1 (((i < hh.length∧True)∧((hh.getD i bk).cap) = ((c.chans.getD i bk).cap))∧TT 2 (IX (i : Int) b.length∧TT 1 (QM (b.getD i 0) 8∧W6 ((b.getD i 0) % 8)∧W6 (((c.chans.getD i bk).cap) + ((b.getD i 0) % 8))∧(True∧(pX 8 (((c.chans.getD i bk).cap) + ((b.getD i 0) % 8))) = (min 8 ((c.chans.getD i bk).cap + b.getD i 0 % 8)))∧IX (i : Int) hh.length∧TT 1 ((i < hh.length∧(hh.map ee).set i ((ee (hh.getD i bk)).take 2 ++ [(.int .i64 (min 8 ((c.chans.getD i bk).cap + b.getD i 0 % 8)))] ++ (ee (hh.getD i bk)).drop (2 + 1)) = (hh.set i ⟨(c.chans.getD i bk).name,(c.chans.getD i bk).w,min 8 ((c.chans.getD i bk).cap + b.getD i 0 % 8),(c.chans.getD i bk).frm,(c.chans.getD i bk).dst⟩).map ee)∧TT 1 (W6 ((i + 1 : Nat) : Int)∧TT 1 (AG (mS c b) (i,hh) (i + 1,hh.set i ⟨(c.chans.getD i bk).name,(c.chans.getD i bk).w,min 8 ((c.chans.getD i bk).cap + b.getD i 0 % 8),(c.chans.getD i bk).frm,(c.chans.getD i bk).dst⟩))))))))) (TT 1 (W6 ((i + 1 : Nat) : Int)∧TT 1 (AG (mS c b) (i,hh) (i + 1,hh)))))))) (TT 3 (c.procs.map gL = ((bE c b).procs).map gL∧hh.map ee = ((bE c b).chans).map ee∧True))))) (TT 5 ((True∧(decide ((i : Int) < (hh.length : Int))) = false)∧TT 8 (c.procs.map gL = ((bE c b).procs).map gL∧hh.map ee = ((bE c b).chans).map ee∧True)))))))) (.w 2 [(0,.box 78 5 ee bk ([] : List Ch)),(3,.box 78 5 ee bk c.chans)] <| .l (mS c b) (0,c.chans) (fun ⟨i,hh⟩ => .s 4 ((i : Int) < (hh.length : Int)) (.w 4 [(5,.val (dB true))] <| .b 23 (.w 6 [(5,.val (i6 ((c.chans.getD i bk).cap)))] <| .b 32 (.w 7 [(8,.val (i6 ((c.chans.getD i bk).cap))),(13,.val (dI .u8 ((b.getD i 0) % 8))),(14,.val (i6 ((b.getD i 0) % 8))),(15,.val (i6 (((c.chans.getD i bk).cap) + ((b.getD i 0) % 8)))),(16,.val (i6 (min 8 ((c.chans.getD i bk).cap + b.getD i 0 % 8)))),(19,.box 78 5 ee bk (hh.set i ⟨(c.chans.getD i bk).name,(c.chans.getD i bk).w,min 8 ((c.chans.getD i bk).cap + b.getD i 0 % 8),(c.chans.getD i bk).frm,(c.chans.getD i bk).dst⟩))] <| .w 5 [(1,.val (i6 ((i + 1 : Nat) : Int)))] <| .e) (.w 5 [(1,.val (i6 ((i + 1 : Nat) : Int)))] <| .e)) (.e)) (.w 4 [(5,.val (dB false))] <| .e))) Tryz.func24 rfl rfl rfl (by kernel_rfl) ?_
 refine tt ⟨oK,tt ⟨⟨by simp; omega,rfl⟩,tt ⟨rfl,⟨by omega,by omega,by simp [ci,tab]⟩,?_⟩⟩⟩
 intro i hh hinv
 obtain ⟨hi,hi2,hhe⟩ := hinv
 have htl : hh.length = c.chans.length := by rw [hhe,cY (by omega)]
 refine ⟨fun hs0 => ?_,fun hs0 => ?_⟩
 · refine tt ⟨(vT hs0),tt (cd (fun hc23 => ?_) (fun hc23 => ?_))⟩
   · have hgi : hh.getD i bk = c.chans.getD i bk := by rw [hhe,iK,if_neg (by omega)]
     refine tt ⟨ix,tt ⟨⟨⟨om,oK⟩,(by rw [hgi])⟩,tt (cd (fun hc32 => ?_) (fun hc32 => ?_))⟩⟩
     · have hyi := di hb i
       have h8i : (c.chans.getD i bk).cap ≤ 8 := h8 i (by omega)
       refine tt ⟨ix,tt ⟨⟨⟨om,oK⟩,(by rw [hgi])⟩,tt ⟨ix,tt ⟨qm,⟨w6,⟨w6,⟨⟨oK,(by unfold pX; split <;> omega)⟩,⟨ix,tt ⟨⟨by omega,by rw [List.map_set,hgi]; rfl⟩,tt ⟨w6,tt ⟨(i + 1,hh.set i ⟨(c.chans.getD i bk).name,(c.chans.getD i bk).w,min 8 ((c.chans.getD i bk).cap + b.getD i 0 % 8),(c.chans.getD i bk).frm,(c.chans.getD i bk).dst⟩),rfl,?_,(?_ : c.chans.length - (i + 1) < c.chans.length - i)⟩⟩⟩⟩⟩⟩⟩⟩⟩⟩⟩
       · exact ⟨by omega,by omega,by rw [hhe]; exact bX (by omega) (by unfold Lb; rw [if_pos (show 0 < (cr c i).cap from hc32)])⟩
       · omega
     · refine tt ⟨w6,tt ⟨(i + 1,hh),rfl,?_,(?_ : c.chans.length - (i + 1) < c.chans.length - i)⟩⟩
       · exact ⟨by omega,by omega,by rw [hhe]; exact cg (d := bk) (by omega) (by unfold Lb; exact if_neg (show ¬0 < (cr c i).cap from hc32))⟩
       · omega
   · refine tt ⟨(congrArg _ (?_ : c.procs = ((bE c b).procs))),(congrArg _ (?_ : hh = ((bE c b).chans))),oK⟩
     all_goals (all_goals first | rfl | (rw [hhe,show i = min c.chans.length b.length by omega]; rfl))
 · refine tt ⟨(vF hs0),tt ⟨(congrArg _ (?_ : c.procs = ((bE c b).procs))),(congrArg _ (?_ : hh = ((bE c b).chans))),oK⟩⟩
   all_goals (all_goals first | rfl | (rw [hhe,show i = min c.chans.length b.length by omega]; rfl))
abbrev c5 (sh : Int) (b bb cl : List Int) : Ct := ⟨5,[(.agg [(dI .u8 sh),(LY b)]),(LY bb),(LY cl)],false,(dB true)⟩
theorem vB (sh : Int) (b bb cl : List Int) (g0 : 0 ≤ sh) (g1 : sh ≤ 255) (gb : lK b) (g_bb : lK bb) (g_cl : lK cl) : CC (c5 sh b bb cl) := by
 have hc := Jy g0 g1 gb
 have hpt : Ju (aM sh b) := Jz
 have hin_bb := MH g0 g1 gb g_bb
 have hz_bb := K8 hin_bb hc
 have hcl := IL cl
 have hcd := Dj hc g_bb sn
 refine ah.vc (V := TT 2 (CC c7∧TT 4 (CC (c9 sh b)∧TT 4 (CC (N6 (aM sh b) bb)∧TT 1 (CC (N7 cl)∧TT 5 (CC (K3 (aM sh b) (ct (aM sh b) bb) 0 (eV cl))∧TT 4 (CC (Oa (aM sh b) bb)∧TT 1 (CC (K3 (bE (aM sh b) bb) (ct (aM sh b) bb) 0 (eV cl))∧TT 5 ((True∧(decide (((cO (aM sh b) (ct (aM sh b) bb) (eV cl)).e) = 0)) = true)∧TT 4 ((True∧(decide (((cO (bE (aM sh b) bb) (ct (aM sh b) bb) (eV cl)).e) = 0)) = true)∧TT 4 (CC (KP ((cO (aM sh b) (ct (aM sh b) bb) (eV cl)).l) ((cO (bE (aM sh b) bb) (ct (aM sh b) bb) (eV cl)).l))∧TT 1 ((True∧(er ((cO (aM sh b) (ct (aM sh b) bb) (eV cl)).l) ((cO (bE (aM sh b) bb) (ct (aM sh b) bb) (eV cl)).l)) = true)∧TT 4 (CC (N8 ((cO (aM sh b) (ct (aM sh b) bb) (eV cl)).c) ((cO (bE (aM sh b) bb) (ct (aM sh b) bb) (eV cl)).c))∧TT 1 ((True∧(si ((cO (aM sh b) (ct (aM sh b) bb) (eV cl)).c) ((cO (bE (aM sh b) bb) (ct (aM sh b) bb) (eV cl)).c)) = true)∧TT 4 (true = true∧True))))))))))))))) (.w 1 [(0,c7.O)] <| .w 4 [(1,(c9 sh b).O)] <| .w 5 [(2,(N6 (aM sh b) bb).O),(4,(N7 cl).O)] <| .w 6 [(2,(K3 (aM sh b) (ct (aM sh b) bb) 0 (eV cl)).O)] <| .w 7 [(2,(Oa (aM sh b) bb).O),(4,(K3 (bE (aM sh b) bb) (ct (aM sh b) bb) 0 (eV cl)).O)] <| .w 8 [(3,.val (dB true)),(8,.val (dB true)),(13,(KP ((cO (aM sh b) (ct (aM sh b) bb) (eV cl)).l) ((cO (bE (aM sh b) bb) (ct (aM sh b) bb) (eV cl)).l)).O),(15,.val (dB true)),(20,(N8 ((cO (aM sh b) (ct (aM sh b) bb) (eV cl)).c) ((cO (bE (aM sh b) bb) (ct (aM sh b) bb) (eV cl)).c)).O),(22,.val (dB true))] <| .e) Tryz.func5 rfl rfl rfl (by kernel_rfl) ?_
 exact tt ⟨(K4),tt ⟨(IV sh b g0 g1 gb),tt ⟨(Ep (aM sh b) bb hc g_bb),tt ⟨(Er cl g_cl),tt ⟨(yv (aM sh b) (ct (aM sh b) bb) 0 (eV cl) hc hpt hz_bb.1 hz_bb.2 (Nat.le_trans hcl (by decide))),tt ⟨(Hh (aM sh b) bb hc g_bb sn),tt ⟨(yv (bE (aM sh b) bb) (ct (aM sh b) bb) 0 (eV cl) hcd Jz hz_bb.1 hz_bb.2 (Nat.le_trans hcl (by decide))),tt ⟨(vT (rj hc hin_bb (Nat.le_trans hcl (by decide)) g_bb sn).1),tt ⟨(vT (rj hc hin_bb (Nat.le_trans hcl (by decide)) g_bb sn).2.1),tt ⟨(x9 ((cO (aM sh b) (ct (aM sh b) bb) (eV cl)).l) ((cO (bE (aM sh b) bb) (ct (aM sh b) bb) (eV cl)).l) (sk hc).1 (sk hc).2.1),tt ⟨(bT (rj hc hin_bb (Nat.le_trans hcl (by decide)) g_bb sn).2.2.1),tt ⟨(IY ((cO (aM sh b) (ct (aM sh b) bb) (eV cl)).c) ((cO (bE (aM sh b) bb) (ct (aM sh b) bb) (eV cl)).c) (sk hc).2.2),tt ⟨(bT (rj hc hin_bb (Nat.le_trans hcl (by decide)) g_bb sn).2.2.2),tt ⟨rfl,oK⟩⟩⟩⟩⟩⟩⟩⟩⟩⟩⟩⟩⟩⟩
end Go.Proofs.YtckgpflobhpnpaaGreat
