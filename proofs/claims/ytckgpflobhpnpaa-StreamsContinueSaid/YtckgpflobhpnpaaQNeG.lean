/-
  Package network: valid states, starts, what a process does.
-/
import Derived.Test.YtckgpflobhpnpaaQNeE
namespace Go.Proofs.Ytckgpflobhpnpaa
open Go.RowKit
set_option linter.unusedVariables false
set_option linter.unusedSimpArgs false
abbrev zz (c : Ci) : List D := [(dL 6 iB ac c.procs),(dL 5 gM cb c.chans)]
set_option maxRecDepth 100000
abbrev Nc (c : Ci) : Ct := ⟨34,[(.agg (zz c))],true,(.agg [(dL 2 cg bV ((gg c).procs)),(dL 1 ab [] ((gg c).chans))])⟩
abbrev nI (c : Ci) : Lp (Nat) := oS [2,3,12,13,14] 5 (fun (i : Nat) => ⟨[(2,(.ptr 1 0 0 0)),(3,(.ptr 3 0 0 0)),(12,(dL 6 iB ac c.procs)),(13,(i6 (c.procs.length : Int))),(14,(i6 (i : Int)))],[(.var 29 (zz c)),(.var 105 [.nils,.nils]),(.arr 37 1 ab [] (List.replicate c.chans.length ([] : List Int))),(.var 105 [(.own 4),(.own 2)]),(.arr 113 2 cg bV (tab (fun i => aQ (be c i)) i))]⟩) (fun (i : Nat) => i ≤ c.procs.length) (fun (i : Nat) => c.procs.length - i)
theorem Ed (c : Ci) (hc : a6 c) : CC (Nc c) := by
 have hnl := hc.nl
 have hcl := hc.cl
 refine ai.vc (V := TT 5 ((((0 : Int) ≤ (c.chans.length : Int)∧(c.chans.length : Int) ≤ (c.chans.length : Int)∧(c.chans.length : Int) ≤ 137438953472)∧(List.replicate c.chans.length ([] : List Int)).length = c.chans.length∧∀ x ∈ (List.replicate c.chans.length ([] : List Int)),de [.nils] (ab x))∧TT 7 (GO (nI c) 0 (∀ i,(nI c).inv i → TT 1 (CD ((i : Int) < (c.procs.length : Int)) (IX (i : Int) c.procs.length∧TT 6 (CC (LN (c.procs.getD i ac))∧ao [[(LI ((aQ (c.procs.getD i ac)).regs)),(dL 1 ab [] ((aQ (c.procs.getD i ac)).mems))]] ([(⟨(aQ (c.procs.getD i ac)).regs,(aQ (c.procs.getD i ac)).mems⟩ : Ps)].map cg)∧((tab (fun i => aQ (be c i)) i).length + ([(⟨(aQ (c.procs.getD i ac)).regs,(aQ (c.procs.getD i ac)).mems⟩ : Ps)].map cg).length ≤ 137438953472∧(tab (fun i => aQ (be c i)) i).map cg ++ [(⟨(aQ (c.procs.getD i ac)).regs,(aQ (c.procs.getD i ac)).mems⟩ : Ps)].map cg = (tab (fun i => aQ (be c i)) (i + 1)).map cg)∧TT 2 (W6 ((i + 1 : Nat) : Int)∧TT 1 (AG (nI c) i (i + 1))))) (TT 3 ((tab (fun i => aQ (be c i)) i).map cg = ((gg c).procs).map cg∧(List.replicate c.chans.length ([] : List Int)).map ab = ((gg c).chans).map ab∧True))))))) (.w 1 [(3,.box 37 1 ab [] (List.replicate c.chans.length ([] : List Int)))] <| .g 2 3 0 113 2 cg bV <| .l (nI c) 0 (fun i => .b 15 (.w 5 [(3,(LN (c.procs.getD i ac)).O),(4,.box 113 2 cg bV [(⟨(aQ (c.procs.getD i ac)).regs,(aQ (c.procs.getD i ac)).mems⟩ : Ps)]),(5,.box 113 2 cg bV (tab (fun i => aQ (be c i)) (i + 1)))] <| .w 6 [(0,.val (i6 ((i + 1 : Nat) : Int)))] <| .e) (.e))) Try.func34 rfl rfl rfl (by kernel_rfl) ?_
 refine tt ⟨⟨by omega,by simp,fun x hx => by rw [List.eq_of_mem_replicate hx]; exact ⟨rfl,oK⟩⟩,tt ⟨rfl,(by omega),?_⟩⟩
 intro i hinv
 have hi := hinv
 refine tt (cd (fun hc15 => ?_) (fun hc15 => ?_))
 · refine ⟨ix,?_⟩
   have hpk := hc.pr i (by omega)
   refine tt ⟨(wF (c.procs.getD i ac) hpk),⟨⟨⟨rfl,rfl,oK⟩,oK⟩,⟨(qH (f := fun i => aQ (be c i)) (by omega)),tt ⟨w6,tt ⟨(i + 1),rfl,(?_ : (i + 1) ≤ c.procs.length),(?_ : c.procs.length - (i + 1) < c.procs.length - i)⟩⟩⟩⟩⟩
   · omega
   · omega
 · refine tt ⟨(congrArg _ (?_ : (tab (fun i => aQ (be c i)) i) = ((gg c).procs))),(congrArg _ (?_ : (List.replicate c.chans.length ([] : List Int)) = ((gg c).chans))),oK⟩
   · rw [show i = c.procs.length by omega]; rfl
   · rfl
abbrev Nd (c : Ci) (s : Ns) (p : Nat) : Ct := ⟨59,[(.agg (zz c)),(.agg [(dL 2 cg bV s.procs),(dL 1 ab [] s.chans)]),(i6 (p : Int))],true,(.agg [(dB ((af c s p).fires)),(LI (((af c s p).s).regs)),(dL 1 ab [] (((af c s p).s).mems)),(LB ((af c s p).pops)),(dL 2 cO aP ((af c s p).puts))])⟩
abbrev mH (c : Ci) (s : Ns) (p : Nat) : Lp (Nat) := oS [2,3,4,6,7,8,21,22,23] 4 (fun (i : Nat) => ⟨[(2,(i6 (p : Int))),(3,(.ptr 0 0 0 0)),(4,(.ptr 1 0 0 0)),(6,(.ptr 2 0 0 0)),(7,(.own 3)),(8,.nils),(21,(dL 9 lJ aR ((c.procs.getD p ac).takes))),(22,(i6 ((((c.procs.getD p ac).takes).length : Nat) : Int))),(23,(i6 (i : Int)))],[(.var 29 (zz c)),(.var 105 [(dL 2 cg bV s.procs),(dL 1 ab [] s.chans)]),(.var 116 [(dB false),.nils,.nils,.nils,.nils]),(.arr 135 2 cO aP (tab (cJ c s p) i))]⟩) (fun (i : Nat) => i ≤ (c.procs.getD p ac).takes.length) (fun (i : Nat) => (c.procs.getD p ac).takes.length - i)
abbrev mI (c : Ci) (s : Ns) (p : Nat) (i : Nat) : Lp (Nat) := oS [2,3,4,6,7,8,50,51,52] 5 (fun (m : Nat) => ⟨[(2,(i6 (p : Int))),(3,(.ptr 0 0 0 0)),(4,(.ptr 1 0 0 0)),(6,(.ptr 2 0 0 0)),(7,(.own 3)),(8,(.own 4)),(50,(dL 16 ou aN ((c.procs.getD p ac).puts))),(51,(i6 ((((c.procs.getD p ac).puts).length : Nat) : Int))),(52,(i6 (m : Int)))],[(.var 29 (zz c)),(.var 105 [(dL 2 cg bV s.procs),(dL 1 ab [] s.chans)]),(.var 116 [(dB false),.nils,.nils,.nils,.nils]),(.arr 135 2 cO aP (tab (cJ c s p) i)),(.arr 4 1 br false (tab (cQ c s p) m))]⟩) (fun (m : Nat) => m ≤ (c.procs.getD p ac).puts.length) (fun (m : Nat) => (c.procs.getD p ac).puts.length - m)
theorem F8 (c : Ci) (s : Ns) (p : Nat) (hc : a6 c) (hs : jS c s) (hp : p < c.procs.length) : CC (Nd c s p) := by
 have hnl := hc.nl
 have hcl := hc.cl
 have hpk : gP (c.procs.getD p ac) := hc.pr p hp
 have hl1 := hs.pl
 have hl2 := hs.cl
 have ht1 : (c.procs.getD p ac).takes.length ≤ 100 := hpk.tl
 have ht2 : (c.procs.getD p ac).puts.length ≤ 100 := hpk.pl
 refine ai.vc (V := TT 8 (IX (p : Int) c.procs.length∧TT 4 (GO (mH c s p) 0 (∀ i,(mH c s p).inv i → TT 1 (CD ((i : Int) < ((((c.procs.getD p ac).takes).length : Nat) : Int)) (IX (i : Int) (((c.procs.getD p ac).takes).length)∧TT 8 (IX ((((c.procs.getD p ac).takes).getD i aR).chan) s.chans.length∧TT 5 (CD ((((s.chans.getD (((((c.procs.getD p ac).takes).getD i aR).chan).toNat) []).length : Nat) : Int) > 0) (TT 1 (IX 0 ((s.chans.getD (((((c.procs.getD p ac).takes).getD i aR).chan).toNat) []).length)∧TT 5 (ao [[(dB true),(i6 ((s.chans.getD (((((c.procs.getD p ac).takes).getD i aR).chan).toNat) []).getD 0 0))]] ([(⟨true,((s.chans.getD (((((c.procs.getD p ac).takes).getD i aR).chan).toNat) []).getD 0 0)⟩ : Hd)].map cO)∧((tab (cJ c s p) i).length + ([(⟨true,((s.chans.getD (((((c.procs.getD p ac).takes).getD i aR).chan).toNat) []).getD 0 0)⟩ : Hd)].map cO).length ≤ 137438953472∧(tab (cJ c s p) i).map cO ++ [(⟨true,((s.chans.getD (((((c.procs.getD p ac).takes).getD i aR).chan).toNat) []).getD 0 0)⟩ : Hd)].map cO = (tab (cJ c s p) (i + 1)).map cO)∧TT 1 (W6 ((i + 1 : Nat) : Int)∧TT 1 (AG (mH c s p) i (i + 1)))))) (TT 2 (ao [[(dB false),(i6 0)]] ([(⟨false,0⟩ : Hd)].map cO)∧((tab (cJ c s p) i).length + ([(⟨false,0⟩ : Hd)].map cO).length ≤ 137438953472∧(tab (cJ c s p) i).map cO ++ [(⟨false,0⟩ : Hd)].map cO = (tab (cJ c s p) (i + 1)).map cO)∧TT 1 (W6 ((i + 1 : Nat) : Int)∧TT 1 (AG (mH c s p) i (i + 1)))))))) (TT 3 (IX (p : Int) c.procs.length∧TT 4 (GO (mI c s p i) 0 (∀ m,(mI c s p i).inv m → TT 1 (CD ((m : Int) < ((((c.procs.getD p ac).puts).length : Nat) : Int)) (IX (m : Int) (((c.procs.getD p ac).puts).length)∧TT 7 (IX ((((c.procs.getD p ac).puts).getD m aN).chan) c.chans.length∧TT 3 (CS (((c.chans.getD (((((c.procs.getD p ac).puts).getD m aN).chan).toNat) cb).dst) = (-1)) (TT 4 ((True∧(decide (((c.chans.getD (((((c.procs.getD p ac).puts).getD m aN).chan).toNat) cb).dst) = (-1))) = true)∧TT 1 (ao [[(dB true)]] ([true].map br)∧((tab (cQ c s p) m).length + ([true].map br).length ≤ 137438953472∧(tab (cQ c s p) m).map br ++ [true].map br = (tab (cQ c s p) (m + 1)).map br)∧TT 1 (W6 ((m + 1 : Nat) : Int)∧TT 1 (AG (mI c s p i) m (m + 1)))))) (TT 4 ((True∧(decide (((c.chans.getD (((((c.procs.getD p ac).puts).getD m aN).chan).toNat) cb).dst) = (-1))) = false)∧TT 4 (IX ((((c.procs.getD p ac).puts).getD m aN).chan) s.chans.length∧TT 6 (ao [[(dB (decide ((((s.chans.getD (((((c.procs.getD p ac).puts).getD m aN).chan).toNat) []).length : Nat) : Int) < ((c.chans.getD (((((c.procs.getD p ac).puts).getD m aN).chan).toNat) cb).cap))))]] ([decide ((((s.chans.getD (((((c.procs.getD p ac).puts).getD m aN).chan).toNat) []).length : Nat) : Int) < ((c.chans.getD (((((c.procs.getD p ac).puts).getD m aN).chan).toNat) cb).cap))].map br)∧((tab (cQ c s p) m).length + ([decide ((((s.chans.getD (((((c.procs.getD p ac).puts).getD m aN).chan).toNat) []).length : Nat) : Int) < ((c.chans.getD (((((c.procs.getD p ac).puts).getD m aN).chan).toNat) cb).cap))].map br).length ≤ 137438953472∧(tab (cQ c s p) m).map br ++ [decide ((((s.chans.getD (((((c.procs.getD p ac).puts).getD m aN).chan).toNat) []).length : Nat) : Int) < ((c.chans.getD (((((c.procs.getD p ac).puts).getD m aN).chan).toNat) cb).cap))].map br = (tab (cQ c s p) (m + 1)).map br)∧TT 1 (W6 ((m + 1 : Nat) : Int)∧TT 1 (AG (mI c s p i) m (m + 1)))))))))) (TT 3 (IX (p : Int) c.procs.length∧TT 4 (IX (p : Int) s.procs.length∧TT 3 (CC (Iq (c.procs.getD p ac) (s.procs.getD p bV) (tab (cJ c s p) i) (tab (cQ c s p) m))∧TT 2 (((aL (c.procs.getD p ac) (s.procs.getD p bV) (tab (cJ c s p) i) (tab (cQ c s p) m)).fires) = ((af c s p).fires)∧(((aL (c.procs.getD p ac) (s.procs.getD p bV) (tab (cJ c s p) i) (tab (cQ c s p) m)).s).regs).map (aa .i64) = (((af c s p).s).regs).map (aa .i64)∧(((aL (c.procs.getD p ac) (s.procs.getD p bV) (tab (cJ c s p) i) (tab (cQ c s p) m)).s).mems).map ab = (((af c s p).s).mems).map ab∧((aL (c.procs.getD p ac) (s.procs.getD p bV) (tab (cJ c s p) i) (tab (cQ c s p) m)).pops).map br = ((af c s p).pops).map br∧((aL (c.procs.getD p ac) (s.procs.getD p bV) (tab (cJ c s p) i) (tab (cQ c s p) m)).puts).map cO = ((af c s p).puts).map cO∧True))))))))))))))) (.gs 3 7 135 2 cO aP <| .l (mH c s p) 0 (fun i => .b 24 (.b 35 (.w 10 [(2,.box 135 2 cO aP [(⟨true,((s.chans.getD (((((c.procs.getD p ac).takes).getD i aR).chan).toNat) []).getD 0 0)⟩ : Hd)]),(3,.box 135 2 cO aP (tab (cJ c s p) (i + 1)))] <| .w 11 [(0,.val (i6 ((i + 1 : Nat) : Int)))] <| .e) (.w 10 [(2,.box 135 2 cO aP [(⟨false,0⟩ : Hd)]),(3,.box 135 2 cO aP (tab (cJ c s p) (i + 1)))] <| .w 11 [(0,.val (i6 ((i + 1 : Nat) : Int)))] <| .e)) (.gs 12 8 4 1 br false <| .l (mI c s p i) 0 (fun m => .b 53 (.s 16 (((c.chans.getD (((((c.procs.getD p ac).puts).getD m aN).chan).toNat) cb).dst) = (-1)) (.w 16 [(4,.val (dB true)),(16,.box 4 1 br false [true]),(17,.box 4 1 br false (tab (cQ c s p) (m + 1)))] <| .w 17 [(0,.val (i6 ((m + 1 : Nat) : Int)))] <| .e) (.w 16 [(4,.val (dB false)),(16,.box 4 1 br false [decide ((((s.chans.getD (((((c.procs.getD p ac).puts).getD m aN).chan).toNat) []).length : Nat) : Int) < ((c.chans.getD (((((c.procs.getD p ac).puts).getD m aN).chan).toNat) cb).cap))]),(17,.box 4 1 br false (tab (cQ c s p) (m + 1)))] <| .w 17 [(0,.val (i6 ((m + 1 : Nat) : Int)))] <| .e)) (.f 18 3 <| .f 18 4 <| .w 18 [(12,(Iq (c.procs.getD p ac) (s.procs.getD p bV) (tab (cJ c s p) i) (tab (cQ c s p) m)).O)] <| .e))))) Try.func59 rfl rfl rfl (by kernel_rfl) ?_
 refine tt ⟨ix,tt ⟨rfl,(by omega),?_⟩⟩
 intro i hinv
 have hi := hinv
 refine tt (cd (fun hc24 => ?_) (fun hc24 => ?_))
 · refine ⟨ix,?_⟩
   have htk : 0 ≤ ((c.procs.getD p ac).takes.getD i aR).chan∧((c.procs.getD p ac).takes.getD i aR).chan < c.chans.length := ⟨(hc.tk p hp i (show i < (c.procs.getD p ac).takes.length by omega)).1,(hc.tk p hp i (show i < (c.procs.getD p ac).takes.length by omega)).2.1⟩
   refine tt ⟨ix,tt (cd (fun hc35 => ?_) (fun hc35 => ?_))⟩
   · refine tt ⟨ix,tt ⟨⟨⟨rfl,rfl,oK⟩,oK⟩,⟨(bu (by omega) (by first | exact (if_pos (show 0 < (s.chans.getD ((c.procs.getD p ac).takes.getD i aR).chan.toNat []).length by omega)).symm | exact (if_neg (show ¬0 < (s.chans.getD ((c.procs.getD p ac).takes.getD i aR).chan.toNat []).length by omega)).symm)),tt ⟨w6,tt ⟨(i + 1),rfl,(?_ : (i + 1) ≤ (c.procs.getD p ac).takes.length),(?_ : (c.procs.getD p ac).takes.length - (i + 1) < (c.procs.getD p ac).takes.length - i)⟩⟩⟩⟩⟩
     · omega
     · omega
   · refine tt ⟨⟨⟨rfl,rfl,oK⟩,oK⟩,⟨(bu (by omega) (by first | exact (if_pos (show 0 < (s.chans.getD ((c.procs.getD p ac).takes.getD i aR).chan.toNat []).length by omega)).symm | exact (if_neg (show ¬0 < (s.chans.getD ((c.procs.getD p ac).takes.getD i aR).chan.toNat []).length by omega)).symm)),tt ⟨w6,tt ⟨(i + 1),rfl,(?_ : (i + 1) ≤ (c.procs.getD p ac).takes.length),(?_ : (c.procs.getD p ac).takes.length - (i + 1) < (c.procs.getD p ac).takes.length - i)⟩⟩⟩⟩
     · omega
     · omega
 · refine tt ⟨ix,tt ⟨rfl,(by omega),?_⟩⟩
   intro m hinv
   have hm := hinv
   refine tt (cd (fun hc53 => ?_) (fun hc53 => ?_))
   · refine ⟨ix,?_⟩
     have hpt : 0 ≤ ((c.procs.getD p ac).puts.getD m aN).chan∧((c.procs.getD p ac).puts.getD m aN).chan < c.chans.length := ⟨(hc.pt p hp m (show m < (c.procs.getD p ac).puts.length by omega)).1,(hc.pt p hp m (show m < (c.procs.getD p ac).puts.length by omega)).2.1⟩
     refine tt ⟨ix,tt ⟨fun hs0 => ?_,fun hs0 => ?_⟩⟩
     · refine tt ⟨(vT hs0),tt ⟨⟨⟨rfl,oK⟩,oK⟩,⟨(bu (by omega) (by first | exact (F7 hs0).symm | exact (xS hs0).symm | exact (xS hs1).symm)),tt ⟨w6,tt ⟨(m + 1),rfl,(?_ : (m + 1) ≤ (c.procs.getD p ac).puts.length),(?_ : (c.procs.getD p ac).puts.length - (m + 1) < (c.procs.getD p ac).puts.length - m)⟩⟩⟩⟩⟩
       · omega
       · omega
     · refine tt ⟨(vF hs0),tt ⟨ix,tt ⟨⟨⟨rfl,oK⟩,oK⟩,⟨(bu (by omega) (by first | exact (F7 hs0).symm | exact (xS hs0).symm | exact (xS hs1).symm)),tt ⟨w6,tt ⟨(m + 1),rfl,(?_ : (m + 1) ≤ (c.procs.getD p ac).puts.length),(?_ : (c.procs.getD p ac).puts.length - (m + 1) < (c.procs.getD p ac).puts.length - m)⟩⟩⟩⟩⟩⟩
       · omega
       · omega
   · have hie : i = (c.procs.getD p ac).takes.length := by omega
     have hme : m = (c.procs.getD p ac).puts.length := by omega
     refine tt ⟨ix,tt ⟨ix,tt ⟨(qM (c.procs.getD p ac) (s.procs.getD p bV) (tab (cJ c s p) i) (tab (cQ c s p) m) hpk (hs.pv p hp) (by rw [hie]; exact qN hc hs hp) (by rw [ap]; omega)),tt ⟨?_,(congrArg _ (?_ : (((aL (c.procs.getD p ac) (s.procs.getD p bV) (tab (cJ c s p) i) (tab (cQ c s p) m)).s).regs) = (((af c s p).s).regs))),(congrArg _ (?_ : (((aL (c.procs.getD p ac) (s.procs.getD p bV) (tab (cJ c s p) i) (tab (cQ c s p) m)).s).mems) = (((af c s p).s).mems))),(congrArg _ (?_ : ((aL (c.procs.getD p ac) (s.procs.getD p bV) (tab (cJ c s p) i) (tab (cQ c s p) m)).pops) = ((af c s p).pops))),(congrArg _ (?_ : ((aL (c.procs.getD p ac) (s.procs.getD p bV) (tab (cJ c s p) i) (tab (cQ c s p) m)).puts) = ((af c s p).puts))),oK⟩⟩⟩⟩
     all_goals (all_goals (rw [hie,hme]; rfl))
end Go.Proofs.Ytckgpflobhpnpaa
