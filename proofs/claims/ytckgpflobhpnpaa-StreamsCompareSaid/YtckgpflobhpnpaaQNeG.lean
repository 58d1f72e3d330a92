/-
  Package network: valid states, starts, what a process does.
-/
import Derived.Test.YtckgpflobhpnpaaQNeE
namespace Go.Proofs.Ytckgpflobhpnpaa
open Go.RowKit
set_option linter.unusedVariables false
set_option linter.unusedSimpArgs false
abbrev xw (c : Ci) : List D := [(dL 6 pU ab c.procs),(dL 5 tu ge c.chans)]
set_option maxRecDepth 100000
abbrev JB (c : Ci) : Ct := ⟨34,[(.agg (xw c))],true,(.agg [(dL 2 bW bK ((fD c).procs)),(dL 1 aa [] ((fD c).chans))])⟩
abbrev mz (c : Ci) : Lp (Nat) := pT [2,3,12,13,14] 5 (fun (i : Nat) => ⟨[(2,(.ptr 1 0 0 0)),(3,(.ptr 3 0 0 0)),(12,(dL 6 pU ab c.procs)),(13,(i6 (c.procs.length : Int))),(14,(i6 (i : Int)))],[(.var 29 (xw c)),(.var 105 [.nils,.nils]),(.arr 37 1 aa [] (List.replicate c.chans.length ([] : List Int))),(.var 105 [(.own 4),(.own 2)]),(.arr 113 2 bW bK (tab (fun i => aL (a6 c i)) i))]⟩) (fun (i : Nat) => i ≤ c.procs.length) (fun (i : Nat) => c.procs.length - i)
theorem Bv (c : Ci) (hc : a8 c) : CC (JB c) := by
 have hnl := hc.nl
 have hcl := hc.cl
 refine ai.vc (V := TT 5 ((((0 : Int) ≤ (c.chans.length : Int)∧(c.chans.length : Int) ≤ (c.chans.length : Int)∧(c.chans.length : Int) ≤ 137438953472)∧(List.replicate c.chans.length ([] : List Int)).length = c.chans.length∧∀ x ∈ (List.replicate c.chans.length ([] : List Int)),cP [.nils] (aa x))∧TT 7 (GO (mz c) 0 (∀ i,(mz c).inv i → TT 1 (CD ((i : Int) < (c.procs.length : Int)) (IX (i : Int) c.procs.length∧TT 6 (CC (Ik (c.procs.getD i ab))∧aF [[(LI ((aL (c.procs.getD i ab)).regs)),(dL 1 aa [] ((aL (c.procs.getD i ab)).mems))]] ([(⟨(aL (c.procs.getD i ab)).regs,(aL (c.procs.getD i ab)).mems⟩ : Ps)].map bW)∧((tab (fun i => aL (a6 c i)) i).length + ([(⟨(aL (c.procs.getD i ab)).regs,(aL (c.procs.getD i ab)).mems⟩ : Ps)].map bW).length ≤ 137438953472∧(tab (fun i => aL (a6 c i)) i).map bW ++ [(⟨(aL (c.procs.getD i ab)).regs,(aL (c.procs.getD i ab)).mems⟩ : Ps)].map bW = (tab (fun i => aL (a6 c i)) (i + 1)).map bW)∧TT 2 (W6 ((i + 1 : Nat) : Int)∧TT 1 (AG (mz c) i (i + 1))))) (TT 3 ((tab (fun i => aL (a6 c i)) i).map bW = ((fD c).procs).map bW∧(List.replicate c.chans.length ([] : List Int)).map aa = ((fD c).chans).map aa∧True))))))) (.w 1 [(3,.box 37 1 aa [] (List.replicate c.chans.length ([] : List Int)))] <| .g 2 3 0 113 2 bW bK <| .l (mz c) 0 (fun i => .b 15 (.w 5 [(3,(Ik (c.procs.getD i ab)).O),(4,.box 113 2 bW bK [(⟨(aL (c.procs.getD i ab)).regs,(aL (c.procs.getD i ab)).mems⟩ : Ps)]),(5,.box 113 2 bW bK (tab (fun i => aL (a6 c i)) (i + 1)))] <| .w 6 [(0,.val (i6 ((i + 1 : Nat) : Int)))] <| .e) (.e))) Try.func34 rfl rfl rfl (by kernel_rfl) ?_
 refine tt ⟨⟨by omega,by simp,fun x hx => by rw [List.eq_of_mem_replicate hx]; exact ⟨rfl,oK⟩⟩,tt ⟨rfl,(by omega),?_⟩⟩
 intro i hinv
 have hi := hinv
 refine tt (cd (fun hc15 => ?_) (fun hc15 => ?_))
 · refine ⟨ix,?_⟩
   have hpk := hc.pr i (by omega)
   refine tt ⟨(uM (c.procs.getD i ab) hpk),⟨⟨⟨rfl,rfl,oK⟩,oK⟩,⟨(pp (f := fun i => aL (a6 c i)) (by omega)),tt ⟨w6,tt ⟨(i + 1),rfl,(?_ : (i + 1) ≤ c.procs.length),(?_ : c.procs.length - (i + 1) < c.procs.length - i)⟩⟩⟩⟩⟩
   · omega
   · omega
 · refine tt ⟨(congrArg _ (?_ : (tab (fun i => aL (a6 c i)) i) = ((fD c).procs))),(congrArg _ (?_ : (List.replicate c.chans.length ([] : List Int)) = ((fD c).chans))),oK⟩
   · rw [show i = c.procs.length by omega]; rfl
   · rfl
abbrev JC (c : Ci) (s : Ns) (p : Nat) : Ct := ⟨59,[(.agg (xw c)),(.agg [(dL 2 bW bK s.procs),(dL 1 aa [] s.chans)]),(i6 (p : Int))],true,(.agg [(dB ((ac c s p).fires)),(LI (((ac c s p).s).regs)),(dL 1 aa [] (((ac c s p).s).mems)),(LB ((ac c s p).pops)),(dL 2 cB aK ((ac c s p).puts))])⟩
abbrev lC (c : Ci) (s : Ns) (p : Nat) : Lp (Nat) := pT [2,3,4,6,7,8,21,22,23] 4 (fun (i : Nat) => ⟨[(2,(i6 (p : Int))),(3,(.ptr 0 0 0 0)),(4,(.ptr 1 0 0 0)),(6,(.ptr 2 0 0 0)),(7,(.own 3)),(8,.nils),(21,(dL 9 tE aQ ((c.procs.getD p ab).takes))),(22,(i6 ((((c.procs.getD p ab).takes).length : Nat) : Int))),(23,(i6 (i : Int)))],[(.var 29 (xw c)),(.var 105 [(dL 2 bW bK s.procs),(dL 1 aa [] s.chans)]),(.var 116 [(dB false),.nils,.nils,.nils,.nils]),(.arr 135 2 cB aK (tab (cx c s p) i))]⟩) (fun (i : Nat) => i ≤ (c.procs.getD p ab).takes.length) (fun (i : Nat) => (c.procs.getD p ab).takes.length - i)
abbrev lD (c : Ci) (s : Ns) (p : Nat) (i : Nat) : Lp (Nat) := pT [2,3,4,6,7,8,50,51,52] 5 (fun (m : Nat) => ⟨[(2,(i6 (p : Int))),(3,(.ptr 0 0 0 0)),(4,(.ptr 1 0 0 0)),(6,(.ptr 2 0 0 0)),(7,(.own 3)),(8,(.own 4)),(50,(dL 16 vP aI ((c.procs.getD p ab).puts))),(51,(i6 ((((c.procs.getD p ab).puts).length : Nat) : Int))),(52,(i6 (m : Int)))],[(.var 29 (xw c)),(.var 105 [(dL 2 bW bK s.procs),(dL 1 aa [] s.chans)]),(.var 116 [(dB false),.nils,.nils,.nils,.nils]),(.arr 135 2 cB aK (tab (cx c s p) i)),(.arr 4 1 bk false (tab (cD c s p) m))]⟩) (fun (m : Nat) => m ≤ (c.procs.getD p ab).puts.length) (fun (m : Nat) => (c.procs.getD p ab).puts.length - m)
theorem Dj (c : Ci) (s : Ns) (p : Nat) (hc : a8 c) (hs : jt c s) (hp : p < c.procs.length) : CC (JC c s p) := by
 have hnl := hc.nl
 have hcl := hc.cl
 have hpk : gE (c.procs.getD p ab) := hc.pr p hp
 have hl1 := hs.pl
 have hl2 := hs.cl
 have ht1 : (c.procs.getD p ab).takes.length ≤ 100 := hpk.tl
 have ht2 : (c.procs.getD p ab).puts.length ≤ 100 := hpk.pl
 refine ai.vc (V := TT 8 (IX (p : Int) c.procs.length∧TT 4 (GO (lC c s p) 0 (∀ i,(lC c s p).inv i → TT 1 (CD ((i : Int) < ((((c.procs.getD p ab).takes).length : Nat) : Int)) (IX (i : Int) (((c.procs.getD p ab).takes).length)∧TT 8 (IX ((((c.procs.getD p ab).takes).getD i aQ).chan) s.chans.length∧TT 5 (CD ((((s.chans.getD (((((c.procs.getD p ab).takes).getD i aQ).chan).toNat) []).length : Nat) : Int) > 0) (TT 1 (IX 0 ((s.chans.getD (((((c.procs.getD p ab).takes).getD i aQ).chan).toNat) []).length)∧TT 5 (aF [[(dB true),(i6 ((s.chans.getD (((((c.procs.getD p ab).takes).getD i aQ).chan).toNat) []).getD 0 0))]] ([(⟨true,((s.chans.getD (((((c.procs.getD p ab).takes).getD i aQ).chan).toNat) []).getD 0 0)⟩ : Hd)].map cB)∧((tab (cx c s p) i).length + ([(⟨true,((s.chans.getD (((((c.procs.getD p ab).takes).getD i aQ).chan).toNat) []).getD 0 0)⟩ : Hd)].map cB).length ≤ 137438953472∧(tab (cx c s p) i).map cB ++ [(⟨true,((s.chans.getD (((((c.procs.getD p ab).takes).getD i aQ).chan).toNat) []).getD 0 0)⟩ : Hd)].map cB = (tab (cx c s p) (i + 1)).map cB)∧TT 1 (W6 ((i + 1 : Nat) : Int)∧TT 1 (AG (lC c s p) i (i + 1)))))) (TT 2 (aF [[(dB false),(i6 0)]] ([(⟨false,0⟩ : Hd)].map cB)∧((tab (cx c s p) i).length + ([(⟨false,0⟩ : Hd)].map cB).length ≤ 137438953472∧(tab (cx c s p) i).map cB ++ [(⟨false,0⟩ : Hd)].map cB = (tab (cx c s p) (i + 1)).map cB)∧TT 1 (W6 ((i + 1 : Nat) : Int)∧TT 1 (AG (lC c s p) i (i + 1)))))))) (TT 3 (IX (p : Int) c.procs.length∧TT 4 (GO (lD c s p i) 0 (∀ m,(lD c s p i).inv m → TT 1 (CD ((m : Int) < ((((c.procs.getD p ab).puts).length : Nat) : Int)) (IX (m : Int) (((c.procs.getD p ab).puts).length)∧TT 7 (IX ((((c.procs.getD p ab).puts).getD m aI).chan) c.chans.length∧TT 3 (CS (((c.chans.getD (((((c.procs.getD p ab).puts).getD m aI).chan).toNat) ge).dst) = (-1)) (TT 4 ((True∧(decide (((c.chans.getD (((((c.procs.getD p ab).puts).getD m aI).chan).toNat) ge).dst) = (-1))) = true)∧TT 1 (aF [[(dB true)]] ([true].map bk)∧((tab (cD c s p) m).length + ([true].map bk).length ≤ 137438953472∧(tab (cD c s p) m).map bk ++ [true].map bk = (tab (cD c s p) (m + 1)).map bk)∧TT 1 (W6 ((m + 1 : Nat) : Int)∧TT 1 (AG (lD c s p i) m (m + 1)))))) (TT 4 ((True∧(decide (((c.chans.getD (((((c.procs.getD p ab).puts).getD m aI).chan).toNat) ge).dst) = (-1))) = false)∧TT 4 (IX ((((c.procs.getD p ab).puts).getD m aI).chan) s.chans.length∧TT 6 (aF [[(dB (decide ((((s.chans.getD (((((c.procs.getD p ab).puts).getD m aI).chan).toNat) []).length : Nat) : Int) < ((c.chans.getD (((((c.procs.getD p ab).puts).getD m aI).chan).toNat) ge).cap))))]] ([decide ((((s.chans.getD (((((c.procs.getD p ab).puts).getD m aI).chan).toNat) []).length : Nat) : Int) < ((c.chans.getD (((((c.procs.getD p ab).puts).getD m aI).chan).toNat) ge).cap))].map bk)∧((tab (cD c s p) m).length + ([decide ((((s.chans.getD (((((c.procs.getD p ab).puts).getD m aI).chan).toNat) []).length : Nat) : Int) < ((c.chans.getD (((((c.procs.getD p ab).puts).getD m aI).chan).toNat) ge).cap))].map bk).length ≤ 137438953472∧(tab (cD c s p) m).map bk ++ [decide ((((s.chans.getD (((((c.procs.getD p ab).puts).getD m aI).chan).toNat) []).length : Nat) : Int) < ((c.chans.getD (((((c.procs.getD p ab).puts).getD m aI).chan).toNat) ge).cap))].map bk = (tab (cD c s p) (m + 1)).map bk)∧TT 1 (W6 ((m + 1 : Nat) : Int)∧TT 1 (AG (lD c s p i) m (m + 1)))))))))) (TT 3 (IX (p : Int) c.procs.length∧TT 4 (IX (p : Int) s.procs.length∧TT 3 (CC (Fk (c.procs.getD p ab) (s.procs.getD p bK) (tab (cx c s p) i) (tab (cD c s p) m))∧TT 2 (((aG (c.procs.getD p ab) (s.procs.getD p bK) (tab (cx c s p) i) (tab (cD c s p) m)).fires) = ((ac c s p).fires)∧(((aG (c.procs.getD p ab) (s.procs.getD p bK) (tab (cx c s p) i) (tab (cD c s p) m)).s).regs).map (ae .i64) = (((ac c s p).s).regs).map (ae .i64)∧(((aG (c.procs.getD p ab) (s.procs.getD p bK) (tab (cx c s p) i) (tab (cD c s p) m)).s).mems).map aa = (((ac c s p).s).mems).map aa∧((aG (c.procs.getD p ab) (s.procs.getD p bK) (tab (cx c s p) i) (tab (cD c s p) m)).pops).map bk = ((ac c s p).pops).map bk∧((aG (c.procs.getD p ab) (s.procs.getD p bK) (tab (cx c s p) i) (tab (cD c s p) m)).puts).map cB = ((ac c s p).puts).map cB∧True))))))))))))))) (.gs 3 7 135 2 cB aK <| .l (lC c s p) 0 (fun i => .b 24 (.b 35 (.w 10 [(2,.box 135 2 cB aK [(⟨true,((s.chans.getD (((((c.procs.getD p ab).takes).getD i aQ).chan).toNat) []).getD 0 0)⟩ : Hd)]),(3,.box 135 2 cB aK (tab (cx c s p) (i + 1)))] <| .w 11 [(0,.val (i6 ((i + 1 : Nat) : Int)))] <| .e) (.w 10 [(2,.box 135 2 cB aK [(⟨false,0⟩ : Hd)]),(3,.box 135 2 cB aK (tab (cx c s p) (i + 1)))] <| .w 11 [(0,.val (i6 ((i + 1 : Nat) : Int)))] <| .e)) (.gs 12 8 4 1 bk false <| .l (lD c s p i) 0 (fun m => .b 53 (.s 16 (((c.chans.getD (((((c.procs.getD p ab).puts).getD m aI).chan).toNat) ge).dst) = (-1)) (.w 16 [(4,.val (dB true)),(16,.box 4 1 bk false [true]),(17,.box 4 1 bk false (tab (cD c s p) (m + 1)))] <| .w 17 [(0,.val (i6 ((m + 1 : Nat) : Int)))] <| .e) (.w 16 [(4,.val (dB false)),(16,.box 4 1 bk false [decide ((((s.chans.getD (((((c.procs.getD p ab).puts).getD m aI).chan).toNat) []).length : Nat) : Int) < ((c.chans.getD (((((c.procs.getD p ab).puts).getD m aI).chan).toNat) ge).cap))]),(17,.box 4 1 bk false (tab (cD c s p) (m + 1)))] <| .w 17 [(0,.val (i6 ((m + 1 : Nat) : Int)))] <| .e)) (.f 18 3 <| .f 18 4 <| .w 18 [(12,(Fk (c.procs.getD p ab) (s.procs.getD p bK) (tab (cx c s p) i) (tab (cD c s p) m)).O)] <| .e))))) Try.func59 rfl rfl rfl (by kernel_rfl) ?_
 refine tt ⟨ix,tt ⟨rfl,(by omega),?_⟩⟩
 intro i hinv
 have hi := hinv
 refine tt (cd (fun hc24 => ?_) (fun hc24 => ?_))
 · refine ⟨ix,?_⟩
   have htk : 0 ≤ ((c.procs.getD p ab).takes.getD i aQ).chan∧((c.procs.getD p ab).takes.getD i aQ).chan < c.chans.length := ⟨(hc.tk p hp i (show i < (c.procs.getD p ab).takes.length by omega)).1,(hc.tk p hp i (show i < (c.procs.getD p ab).takes.length by omega)).2.1⟩
   refine tt ⟨ix,tt (cd (fun hc35 => ?_) (fun hc35 => ?_))⟩
   · refine tt ⟨ix,tt ⟨⟨⟨rfl,rfl,oK⟩,oK⟩,⟨(fZ (by omega) (by first | exact (if_pos (show 0 < (s.chans.getD ((c.procs.getD p ab).takes.getD i aQ).chan.toNat []).length by omega)).symm | exact (if_neg (show ¬0 < (s.chans.getD ((c.procs.getD p ab).takes.getD i aQ).chan.toNat []).length by omega)).symm)),tt ⟨w6,tt ⟨(i + 1),rfl,(?_ : (i + 1) ≤ (c.procs.getD p ab).takes.length),(?_ : (c.procs.getD p ab).takes.length - (i + 1) < (c.procs.getD p ab).takes.length - i)⟩⟩⟩⟩⟩
     · omega
     · omega
   · refine tt ⟨⟨⟨rfl,rfl,oK⟩,oK⟩,⟨(fZ (by omega) (by first | exact (if_pos (show 0 < (s.chans.getD ((c.procs.getD p ab).takes.getD i aQ).chan.toNat []).length by omega)).symm | exact (if_neg (show ¬0 < (s.chans.getD ((c.procs.getD p ab).takes.getD i aQ).chan.toNat []).length by omega)).symm)),tt ⟨w6,tt ⟨(i + 1),rfl,(?_ : (i + 1) ≤ (c.procs.getD p ab).takes.length),(?_ : (c.procs.getD p ab).takes.length - (i + 1) < (c.procs.getD p ab).takes.length - i)⟩⟩⟩⟩
     · omega
     · omega
 · refine tt ⟨ix,tt ⟨rfl,(by omega),?_⟩⟩
   intro m hinv
   have hm := hinv
   refine tt (cd (fun hc53 => ?_) (fun hc53 => ?_))
   · refine ⟨ix,?_⟩
     have hpt : 0 ≤ ((c.procs.getD p ab).puts.getD m aI).chan∧((c.procs.getD p ab).puts.getD m aI).chan < c.chans.length := ⟨(hc.pt p hp m (show m < (c.procs.getD p ab).puts.length by omega)).1,(hc.pt p hp m (show m < (c.procs.getD p ab).puts.length by omega)).2.1⟩
     refine tt ⟨ix,tt ⟨fun hs0 => ?_,fun hs0 => ?_⟩⟩
     · refine tt ⟨(vT hs0),tt ⟨⟨⟨rfl,oK⟩,oK⟩,⟨(fZ (by omega) (by first | exact (Di hs0).symm | exact (v6 hs0).symm | exact (v6 hs1).symm)),tt ⟨w6,tt ⟨(m + 1),rfl,(?_ : (m + 1) ≤ (c.procs.getD p ab).puts.length),(?_ : (c.procs.getD p ab).puts.length - (m + 1) < (c.procs.getD p ab).puts.length - m)⟩⟩⟩⟩⟩
       · omega
       · omega
     · refine tt ⟨(vF hs0),tt ⟨ix,tt ⟨⟨⟨rfl,oK⟩,oK⟩,⟨(fZ (by omega) (by first | exact (Di hs0).symm | exact (v6 hs0).symm | exact (v6 hs1).symm)),tt ⟨w6,tt ⟨(m + 1),rfl,(?_ : (m + 1) ≤ (c.procs.getD p ab).puts.length),(?_ : (c.procs.getD p ab).puts.length - (m + 1) < (c.procs.getD p ab).puts.length - m)⟩⟩⟩⟩⟩⟩
       · omega
       · omega
   · have hie : i = (c.procs.getD p ab).takes.length := by omega
     have hme : m = (c.procs.getD p ab).puts.length := by omega
     refine tt ⟨ix,tt ⟨ix,tt ⟨(pA (c.procs.getD p ab) (s.procs.getD p bK) (tab (cx c s p) i) (tab (cD c s p) m) hpk (hs.pv p hp) (by rw [hie]; exact pB hc hs hp) (by rw [au]; omega)),tt ⟨?_,(congrArg _ (?_ : (((aG (c.procs.getD p ab) (s.procs.getD p bK) (tab (cx c s p) i) (tab (cD c s p) m)).s).regs) = (((ac c s p).s).regs))),(congrArg _ (?_ : (((aG (c.procs.getD p ab) (s.procs.getD p bK) (tab (cx c s p) i) (tab (cD c s p) m)).s).mems) = (((ac c s p).s).mems))),(congrArg _ (?_ : ((aG (c.procs.getD p ab) (s.procs.getD p bK) (tab (cx c s p) i) (tab (cD c s p) m)).pops) = ((ac c s p).pops))),(congrArg _ (?_ : ((aG (c.procs.getD p ab) (s.procs.getD p bK) (tab (cx c s p) i) (tab (cD c s p) m)).puts) = ((ac c s p).puts))),oK⟩⟩⟩⟩
     all_goals (all_goals (rw [hie,hme]; rfl))
end Go.Proofs.Ytckgpflobhpnpaa
