/-
  Package network: valid states, starts, what a process does.
-/
import Derived.Test.YtckgpflobhpnpaaGreatQNeE
namespace Go.Proofs.YtckgpflobhpnpaaGreat
open Go.RowKit
set_option linter.unusedVariables false
set_option linter.unusedSimpArgs false
abbrev zt (c : Ci) : List D := [(dL 6 gL ab c.procs),(dL 5 ee bk c.chans)]
set_option maxRecDepth 100000
abbrev NG (c : Ci) : Ct := ⟨26,[(.agg (zt c))],true,(.agg [(dL 2 ca bS ((ge c).procs)),(dL 1 ac [] ((ge c).chans))])⟩
abbrev nz (c : Ci) : Lp (Nat) := pC [2,3,12,13,14] 5 (fun (i : Nat) => ⟨[(2,(.ptr 1 0 0 0)),(3,(.ptr 3 0 0 0)),(12,(dL 6 gL ab c.procs)),(13,(i6 (c.procs.length : Int))),(14,(i6 (i : Int)))],[(.var 33 (zt c)),(.var 70 [.nils,.nils]),(.arr 42 1 ac [] (List.replicate c.chans.length ([] : List Int))),(.var 70 [(.own 4),(.own 2)]),(.arr 56 2 ca bS (tab (fun i => aP (a8 c i)) i))]⟩) (fun (i : Nat) => i ≤ c.procs.length) (fun (i : Nat) => c.procs.length - i)
theorem D4 (c : Ci) (hc : aZ c) : CC (NG c) := by
 have hnl := hc.nl
 have hcl := hc.cl
 refine ah.vc (V := TT 5 ((((0 : Int) ≤ (c.chans.length : Int)∧(c.chans.length : Int) ≤ (c.chans.length : Int)∧(c.chans.length : Int) ≤ 137438953472)∧(List.replicate c.chans.length ([] : List Int)).length = c.chans.length∧∀ x ∈ (List.replicate c.chans.length ([] : List Int)),db [.nils] (ac x))∧TT 7 (GO (nz c) 0 (∀ i,(nz c).inv i → TT 1 (CD ((i : Int) < (c.procs.length : Int)) (IX (i : Int) c.procs.length∧TT 6 (CC (L5 (c.procs.getD i ab))∧an [[(LI ((aP (c.procs.getD i ab)).regs)),(dL 1 ac [] ((aP (c.procs.getD i ab)).mems))]] ([(⟨(aP (c.procs.getD i ab)).regs,(aP (c.procs.getD i ab)).mems⟩ : Ps)].map ca)∧((tab (fun i => aP (a8 c i)) i).length + ([(⟨(aP (c.procs.getD i ab)).regs,(aP (c.procs.getD i ab)).mems⟩ : Ps)].map ca).length ≤ 137438953472∧(tab (fun i => aP (a8 c i)) i).map ca ++ [(⟨(aP (c.procs.getD i ab)).regs,(aP (c.procs.getD i ab)).mems⟩ : Ps)].map ca = (tab (fun i => aP (a8 c i)) (i + 1)).map ca)∧TT 2 (W6 ((i + 1 : Nat) : Int)∧TT 1 (AG (nz c) i (i + 1))))) (TT 3 ((tab (fun i => aP (a8 c i)) i).map ca = ((ge c).procs).map ca∧(List.replicate c.chans.length ([] : List Int)).map ac = ((ge c).chans).map ac∧True))))))) (.w 1 [(3,.box 42 1 ac [] (List.replicate c.chans.length ([] : List Int)))] <| .g 2 3 0 56 2 ca bS <| .l (nz c) 0 (fun i => .b 15 (.w 5 [(3,(L5 (c.procs.getD i ab)).O),(4,.box 56 2 ca bS [(⟨(aP (c.procs.getD i ab)).regs,(aP (c.procs.getD i ab)).mems⟩ : Ps)]),(5,.box 56 2 ca bS (tab (fun i => aP (a8 c i)) (i + 1)))] <| .w 6 [(0,.val (i6 ((i + 1 : Nat) : Int)))] <| .e) (.e))) Tryz.func26 rfl rfl rfl (by kernel_rfl) ?_
 refine tt ⟨⟨by omega,by simp,fun x hx => by rw [List.eq_of_mem_replicate hx]; exact ⟨rfl,oK⟩⟩,tt ⟨rfl,(by omega),?_⟩⟩
 intro i hinv
 have hi := hinv
 refine tt (cd (fun hc15 => ?_) (fun hc15 => ?_))
 · refine ⟨ix,?_⟩
   have hpk := hc.pr i (by omega)
   refine tt ⟨(wB (c.procs.getD i ab) hpk),⟨⟨⟨rfl,rfl,oK⟩,oK⟩,⟨(qH (f := fun i => aP (a8 c i)) (by omega)),tt ⟨w6,tt ⟨(i + 1),rfl,(?_ : (i + 1) ≤ c.procs.length),(?_ : c.procs.length - (i + 1) < c.procs.length - i)⟩⟩⟩⟩⟩
   · omega
   · omega
 · refine tt ⟨(congrArg _ (?_ : (tab (fun i => aP (a8 c i)) i) = ((ge c).procs))),(congrArg _ (?_ : (List.replicate c.chans.length ([] : List Int)) = ((ge c).chans))),oK⟩
   · rw [show i = c.procs.length by omega]; rfl
   · rfl
abbrev NH (c : Ci) (s : Ns) (p : Nat) : Ct := ⟨89,[(.agg (zt c)),(.agg [(dL 2 ca bS s.procs),(dL 1 ac [] s.chans)]),(i6 (p : Int))],true,(.agg [(dB ((ae c s p).fires)),(LI (((ae c s p).s).regs)),(dL 1 ac [] (((ae c s p).s).mems)),(LB ((ae c s p).pops)),(dL 2 cB aO ((ae c s p).puts))])⟩
abbrev mC (c : Ci) (s : Ns) (p : Nat) : Lp (Nat) := pC [2,3,4,6,7,8,21,22,23] 4 (fun (i : Nat) => ⟨[(2,(i6 (p : Int))),(3,(.ptr 0 0 0 0)),(4,(.ptr 1 0 0 0)),(6,(.ptr 2 0 0 0)),(7,(.own 3)),(8,.nils),(21,(dL 9 lD aQ ((c.procs.getD p ab).takes))),(22,(i6 ((((c.procs.getD p ab).takes).length : Nat) : Int))),(23,(i6 (i : Int)))],[(.var 33 (zt c)),(.var 70 [(dL 2 ca bS s.procs),(dL 1 ac [] s.chans)]),(.var 101 [(dB false),.nils,.nils,.nils,.nils]),(.arr 115 2 cB aO (tab (cA c s p) i))]⟩) (fun (i : Nat) => i ≤ (c.procs.getD p ab).takes.length) (fun (i : Nat) => (c.procs.getD p ab).takes.length - i)
abbrev mD (c : Ci) (s : Ns) (p : Nat) (i : Nat) : Lp (Nat) := pC [2,3,4,6,7,8,50,51,52] 5 (fun (m : Nat) => ⟨[(2,(i6 (p : Int))),(3,(.ptr 0 0 0 0)),(4,(.ptr 1 0 0 0)),(6,(.ptr 2 0 0 0)),(7,(.own 3)),(8,(.own 4)),(50,(dL 16 oo aL ((c.procs.getD p ab).puts))),(51,(i6 ((((c.procs.getD p ab).puts).length : Nat) : Int))),(52,(i6 (m : Int)))],[(.var 33 (zt c)),(.var 70 [(dL 2 ca bS s.procs),(dL 1 ac [] s.chans)]),(.var 101 [(dB false),.nils,.nils,.nils,.nils]),(.arr 115 2 cB aO (tab (cA c s p) i)),(.arr 4 1 br false (tab (cJ c s p) m))]⟩) (fun (m : Nat) => m ≤ (c.procs.getD p ab).puts.length) (fun (m : Nat) => (c.procs.getD p ab).puts.length - m)
theorem F7 (c : Ci) (s : Ns) (p : Nat) (hc : aZ c) (hs : ja c s) (hp : p < c.procs.length) : CC (NH c s p) := by
 have hnl := hc.nl
 have hcl := hc.cl
 have hpk : gP (c.procs.getD p ab) := hc.pr p hp
 have hl1 := hs.pl
 have hl2 := hs.cl
 have ht1 : (c.procs.getD p ab).takes.length ≤ 100 := hpk.tl
 have ht2 : (c.procs.getD p ab).puts.length ≤ 100 := hpk.pl
 refine ah.vc (V := TT 8 (IX (p : Int) c.procs.length∧TT 4 (GO (mC c s p) 0 (∀ i,(mC c s p).inv i → TT 1 (CD ((i : Int) < ((((c.procs.getD p ab).takes).length : Nat) : Int)) (IX (i : Int) (((c.procs.getD p ab).takes).length)∧TT 8 (IX ((((c.procs.getD p ab).takes).getD i aQ).chan) s.chans.length∧TT 5 (CD ((((s.chans.getD (((((c.procs.getD p ab).takes).getD i aQ).chan).toNat) []).length : Nat) : Int) > 0) (TT 1 (IX 0 ((s.chans.getD (((((c.procs.getD p ab).takes).getD i aQ).chan).toNat) []).length)∧TT 5 (an [[(dB true),(i6 ((s.chans.getD (((((c.procs.getD p ab).takes).getD i aQ).chan).toNat) []).getD 0 0))]] ([(⟨true,((s.chans.getD (((((c.procs.getD p ab).takes).getD i aQ).chan).toNat) []).getD 0 0)⟩ : Hd)].map cB)∧((tab (cA c s p) i).length + ([(⟨true,((s.chans.getD (((((c.procs.getD p ab).takes).getD i aQ).chan).toNat) []).getD 0 0)⟩ : Hd)].map cB).length ≤ 137438953472∧(tab (cA c s p) i).map cB ++ [(⟨true,((s.chans.getD (((((c.procs.getD p ab).takes).getD i aQ).chan).toNat) []).getD 0 0)⟩ : Hd)].map cB = (tab (cA c s p) (i + 1)).map cB)∧TT 1 (W6 ((i + 1 : Nat) : Int)∧TT 1 (AG (mC c s p) i (i + 1)))))) (TT 2 (an [[(dB false),(i6 0)]] ([(⟨false,0⟩ : Hd)].map cB)∧((tab (cA c s p) i).length + ([(⟨false,0⟩ : Hd)].map cB).length ≤ 137438953472∧(tab (cA c s p) i).map cB ++ [(⟨false,0⟩ : Hd)].map cB = (tab (cA c s p) (i + 1)).map cB)∧TT 1 (W6 ((i + 1 : Nat) : Int)∧TT 1 (AG (mC c s p) i (i + 1)))))))) (TT 3 (IX (p : Int) c.procs.length∧TT 4 (GO (mD c s p i) 0 (∀ m,(mD c s p i).inv m → TT 1 (CD ((m : Int) < ((((c.procs.getD p ab).puts).length : Nat) : Int)) (IX (m : Int) (((c.procs.getD p ab).puts).length)∧TT 7 (IX ((((c.procs.getD p ab).puts).getD m aL).chan) c.chans.length∧TT 3 (CS (((c.chans.getD (((((c.procs.getD p ab).puts).getD m aL).chan).toNat) bk).dst) = (-1)) (TT 4 ((True∧(decide (((c.chans.getD (((((c.procs.getD p ab).puts).getD m aL).chan).toNat) bk).dst) = (-1))) = true)∧TT 1 (an [[(dB true)]] ([true].map br)∧((tab (cJ c s p) m).length + ([true].map br).length ≤ 137438953472∧(tab (cJ c s p) m).map br ++ [true].map br = (tab (cJ c s p) (m + 1)).map br)∧TT 1 (W6 ((m + 1 : Nat) : Int)∧TT 1 (AG (mD c s p i) m (m + 1)))))) (TT 4 ((True∧(decide (((c.chans.getD (((((c.procs.getD p ab).puts).getD m aL).chan).toNat) bk).dst) = (-1))) = false)∧TT 4 (IX ((((c.procs.getD p ab).puts).getD m aL).chan) s.chans.length∧TT 6 (an [[(dB (decide ((((s.chans.getD (((((c.procs.getD p ab).puts).getD m aL).chan).toNat) []).length : Nat) : Int) < ((c.chans.getD (((((c.procs.getD p ab).puts).getD m aL).chan).toNat) bk).cap))))]] ([decide ((((s.chans.getD (((((c.procs.getD p ab).puts).getD m aL).chan).toNat) []).length : Nat) : Int) < ((c.chans.getD (((((c.procs.getD p ab).puts).getD m aL).chan).toNat) bk).cap))].map br)∧((tab (cJ c s p) m).length + ([decide ((((s.chans.getD (((((c.procs.getD p ab).puts).getD m aL).chan).toNat) []).length : Nat) : Int) < ((c.chans.getD (((((c.procs.getD p ab).puts).getD m aL).chan).toNat) bk).cap))].map br).length ≤ 137438953472∧(tab (cJ c s p) m).map br ++ [decide ((((s.chans.getD (((((c.procs.getD p ab).puts).getD m aL).chan).toNat) []).length : Nat) : Int) < ((c.chans.getD (((((c.procs.getD p ab).puts).getD m aL).chan).toNat) bk).cap))].map br = (tab (cJ c s p) (m + 1)).map br)∧TT 1 (W6 ((m + 1 : Nat) : Int)∧TT 1 (AG (mD c s p i) m (m + 1)))))))))) (TT 3 (IX (p : Int) c.procs.length∧TT 4 (IX (p : Int) s.procs.length∧TT 3 (CC (Im (c.procs.getD p ab) (s.procs.getD p bS) (tab (cA c s p) i) (tab (cJ c s p) m))∧TT 2 (((aI (c.procs.getD p ab) (s.procs.getD p bS) (tab (cA c s p) i) (tab (cJ c s p) m)).fires) = ((ae c s p).fires)∧(((aI (c.procs.getD p ab) (s.procs.getD p bS) (tab (cA c s p) i) (tab (cJ c s p) m)).s).regs).map (aa .i64) = (((ae c s p).s).regs).map (aa .i64)∧(((aI (c.procs.getD p ab) (s.procs.getD p bS) (tab (cA c s p) i) (tab (cJ c s p) m)).s).mems).map ac = (((ae c s p).s).mems).map ac∧((aI (c.procs.getD p ab) (s.procs.getD p bS) (tab (cA c s p) i) (tab (cJ c s p) m)).pops).map br = ((ae c s p).pops).map br∧((aI (c.procs.getD p ab) (s.procs.getD p bS) (tab (cA c s p) i) (tab (cJ c s p) m)).puts).map cB = ((ae c s p).puts).map cB∧True))))))))))))))) (.gs 3 7 115 2 cB aO <| .l (mC c s p) 0 (fun i => .b 24 (.b 35 (.w 10 [(2,.box 115 2 cB aO [(⟨true,((s.chans.getD (((((c.procs.getD p ab).takes).getD i aQ).chan).toNat) []).getD 0 0)⟩ : Hd)]),(3,.box 115 2 cB aO (tab (cA c s p) (i + 1)))] <| .w 11 [(0,.val (i6 ((i + 1 : Nat) : Int)))] <| .e) (.w 10 [(2,.box 115 2 cB aO [(⟨false,0⟩ : Hd)]),(3,.box 115 2 cB aO (tab (cA c s p) (i + 1)))] <| .w 11 [(0,.val (i6 ((i + 1 : Nat) : Int)))] <| .e)) (.gs 12 8 4 1 br false <| .l (mD c s p i) 0 (fun m => .b 53 (.s 16 (((c.chans.getD (((((c.procs.getD p ab).puts).getD m aL).chan).toNat) bk).dst) = (-1)) (.w 16 [(4,.val (dB true)),(16,.box 4 1 br false [true]),(17,.box 4 1 br false (tab (cJ c s p) (m + 1)))] <| .w 17 [(0,.val (i6 ((m + 1 : Nat) : Int)))] <| .e) (.w 16 [(4,.val (dB false)),(16,.box 4 1 br false [decide ((((s.chans.getD (((((c.procs.getD p ab).puts).getD m aL).chan).toNat) []).length : Nat) : Int) < ((c.chans.getD (((((c.procs.getD p ab).puts).getD m aL).chan).toNat) bk).cap))]),(17,.box 4 1 br false (tab (cJ c s p) (m + 1)))] <| .w 17 [(0,.val (i6 ((m + 1 : Nat) : Int)))] <| .e)) (.f 18 3 <| .f 18 4 <| .w 18 [(12,(Im (c.procs.getD p ab) (s.procs.getD p bS) (tab (cA c s p) i) (tab (cJ c s p) m)).O)] <| .e))))) Tryz.func89 rfl rfl rfl (by kernel_rfl) ?_
 refine tt ⟨ix,tt ⟨rfl,(by omega),?_⟩⟩
 intro i hinv
 have hi := hinv
 refine tt (cd (fun hc24 => ?_) (fun hc24 => ?_))
 · refine ⟨ix,?_⟩
   have htk : 0 ≤ ((c.procs.getD p ab).takes.getD i aQ).chan∧((c.procs.getD p ab).takes.getD i aQ).chan < c.chans.length := ⟨(hc.tk p hp i (show i < (c.procs.getD p ab).takes.length by omega)).1,(hc.tk p hp i (show i < (c.procs.getD p ab).takes.length by omega)).2.1⟩
   refine tt ⟨ix,tt (cd (fun hc35 => ?_) (fun hc35 => ?_))⟩
   · refine tt ⟨ix,tt ⟨⟨⟨rfl,rfl,oK⟩,oK⟩,⟨(bz (by omega) (by first | exact (if_pos (show 0 < (s.chans.getD ((c.procs.getD p ab).takes.getD i aQ).chan.toNat []).length by omega)).symm | exact (if_neg (show ¬0 < (s.chans.getD ((c.procs.getD p ab).takes.getD i aQ).chan.toNat []).length by omega)).symm)),tt ⟨w6,tt ⟨(i + 1),rfl,(?_ : (i + 1) ≤ (c.procs.getD p ab).takes.length),(?_ : (c.procs.getD p ab).takes.length - (i + 1) < (c.procs.getD p ab).takes.length - i)⟩⟩⟩⟩⟩
     · omega
     · omega
   · refine tt ⟨⟨⟨rfl,rfl,oK⟩,oK⟩,⟨(bz (by omega) (by first | exact (if_pos (show 0 < (s.chans.getD ((c.procs.getD p ab).takes.getD i aQ).chan.toNat []).length by omega)).symm | exact (if_neg (show ¬0 < (s.chans.getD ((c.procs.getD p ab).takes.getD i aQ).chan.toNat []).length by omega)).symm)),tt ⟨w6,tt ⟨(i + 1),rfl,(?_ : (i + 1) ≤ (c.procs.getD p ab).takes.length),(?_ : (c.procs.getD p ab).takes.length - (i + 1) < (c.procs.getD p ab).takes.length - i)⟩⟩⟩⟩
     · omega
     · omega
 · refine tt ⟨ix,tt ⟨rfl,(by omega),?_⟩⟩
   intro m hinv
   have hm := hinv
   refine tt (cd (fun hc53 => ?_) (fun hc53 => ?_))
   · refine ⟨ix,?_⟩
     have hpt : 0 ≤ ((c.procs.getD p ab).puts.getD m aL).chan∧((c.procs.getD p ab).puts.getD m aL).chan < c.chans.length := ⟨(hc.pt p hp m (show m < (c.procs.getD p ab).puts.length by omega)).1,(hc.pt p hp m (show m < (c.procs.getD p ab).puts.length by omega)).2.1⟩
     refine tt ⟨ix,tt ⟨fun hs0 => ?_,fun hs0 => ?_⟩⟩
     · refine tt ⟨(vT hs0),tt ⟨⟨⟨rfl,oK⟩,oK⟩,⟨(bz (by omega) (by first | exact (F6 hs0).symm | exact (xP hs0).symm | exact (xP hs1).symm)),tt ⟨w6,tt ⟨(m + 1),rfl,(?_ : (m + 1) ≤ (c.procs.getD p ab).puts.length),(?_ : (c.procs.getD p ab).puts.length - (m + 1) < (c.procs.getD p ab).puts.length - m)⟩⟩⟩⟩⟩
       · omega
       · omega
     · refine tt ⟨(vF hs0),tt ⟨ix,tt ⟨⟨⟨rfl,oK⟩,oK⟩,⟨(bz (by omega) (by first | exact (F6 hs0).symm | exact (xP hs0).symm | exact (xP hs1).symm)),tt ⟨w6,tt ⟨(m + 1),rfl,(?_ : (m + 1) ≤ (c.procs.getD p ab).puts.length),(?_ : (c.procs.getD p ab).puts.length - (m + 1) < (c.procs.getD p ab).puts.length - m)⟩⟩⟩⟩⟩⟩
       · omega
       · omega
   · have hie : i = (c.procs.getD p ab).takes.length := by omega
     have hme : m = (c.procs.getD p ab).puts.length := by omega
     refine tt ⟨ix,tt ⟨ix,tt ⟨(qM (c.procs.getD p ab) (s.procs.getD p bS) (tab (cA c s p) i) (tab (cJ c s p) m) hpk (hs.pv p hp) (by rw [hie]; exact qN hc hs hp) (by rw [ap]; omega)),tt ⟨?_,(congrArg _ (?_ : (((aI (c.procs.getD p ab) (s.procs.getD p bS) (tab (cA c s p) i) (tab (cJ c s p) m)).s).regs) = (((ae c s p).s).regs))),(congrArg _ (?_ : (((aI (c.procs.getD p ab) (s.procs.getD p bS) (tab (cA c s p) i) (tab (cJ c s p) m)).s).mems) = (((ae c s p).s).mems))),(congrArg _ (?_ : ((aI (c.procs.getD p ab) (s.procs.getD p bS) (tab (cA c s p) i) (tab (cJ c s p) m)).pops) = ((ae c s p).pops))),(congrArg _ (?_ : ((aI (c.procs.getD p ab) (s.procs.getD p bS) (tab (cA c s p) i) (tab (cJ c s p) m)).puts) = ((ae c s p).puts))),oK⟩⟩⟩⟩
     all_goals (all_goals (rw [hie,hme]; rfl))
end Go.Proofs.YtckgpflobhpnpaaGreat
