/-
  Package network: valid states, starts, what a process does.
-/
import Derived.Test.YtgmpoenfoacofaaGreatQNeE
namespace Go.Proofs.YtgmpoenfoacofaaGreat
open Go.RowKit
set_option linter.unusedVariables false
set_option linter.unusedSimpArgs false
abbrev tF (c : Ci) : List D := [(dL 6 c9 aB c.procs),(dL 5 d7 be c.chans)]
set_option maxRecDepth 100000
abbrev Iu (c : Ci) : Ct := ⟨30,[(.agg (tF c))],true,(.agg [(dL 2 bA b4 ((aC c).procs)),(dL 1 ac [] ((aC c).chans))])⟩
abbrev kL (c : Ci) : Lp (Nat) := jO [2,3,12,13,14] 5 (fun (i : Nat) => ⟨[(2,(.ptr 1 0 0 0)),(3,(.ptr 3 0 0 0)),(12,(dL 6 c9 aB c.procs)),(13,(i6 (c.procs.length : Int))),(14,(i6 (i : Int)))],[(.var 38 (tF c)),(.var 42 [.nils,.nils]),(.arr 28 1 ac [] (List.replicate c.chans.length ([] : List Int))),(.var 42 [(.own 4),(.own 2)]),(.arr 112 2 bA b4 (tab (fun i => aJ (ba c i)) i))]⟩) (fun (i : Nat) => i ≤ c.procs.length) (fun (i : Nat) => c.procs.length - i)
theorem Ag (c : Ci) (hc : b5 c) : CC (Iu c) := by
 have hnl := hc.nl
 have hcl := hc.cl
 refine af.vc (V := TT 5 ((((0 : Int) ≤ (c.chans.length : Int)∧(c.chans.length : Int) ≤ (c.chans.length : Int)∧(c.chans.length : Int) ≤ 137438953472)∧(List.replicate c.chans.length ([] : List Int)).length = c.chans.length∧∀ x ∈ (List.replicate c.chans.length ([] : List Int)),dP [.nils] (ac x))∧TT 7 (GO (kL c) 0 (∀ i,(kL c).inv i → TT 1 (CD ((i : Int) < (c.procs.length : Int)) (IX (i : Int) c.procs.length∧TT 6 (CC (Ii (c.procs.getD i aB))∧an [[(LI ((aJ (c.procs.getD i aB)).regs)),(dL 1 ac [] ((aJ (c.procs.getD i aB)).mems))]] ([(⟨(aJ (c.procs.getD i aB)).regs,(aJ (c.procs.getD i aB)).mems⟩ : Ps)].map bA)∧((tab (fun i => aJ (ba c i)) i).length + ([(⟨(aJ (c.procs.getD i aB)).regs,(aJ (c.procs.getD i aB)).mems⟩ : Ps)].map bA).length ≤ 137438953472∧(tab (fun i => aJ (ba c i)) i).map bA ++ [(⟨(aJ (c.procs.getD i aB)).regs,(aJ (c.procs.getD i aB)).mems⟩ : Ps)].map bA = (tab (fun i => aJ (ba c i)) (i + 1)).map bA)∧TT 2 (W6 ((i + 1 : Nat) : Int)∧TT 1 (AG (kL c) i (i + 1))))) (TT 3 ((tab (fun i => aJ (ba c i)) i).map bA = ((aC c).procs).map bA∧(List.replicate c.chans.length ([] : List Int)).map ac = ((aC c).chans).map ac∧True))))))) (.w 1 [(3,.box 28 1 ac [] (List.replicate c.chans.length ([] : List Int)))] <| .g 2 3 0 112 2 bA b4 <| .l (kL c) 0 (fun i => .b 15 (.w 5 [(3,(Ii (c.procs.getD i aB)).O),(4,.box 112 2 bA b4 [(⟨(aJ (c.procs.getD i aB)).regs,(aJ (c.procs.getD i aB)).mems⟩ : Ps)]),(5,.box 112 2 bA b4 (tab (fun i => aJ (ba c i)) (i + 1)))] <| .w 6 [(0,.val (i6 ((i + 1 : Nat) : Int)))] <| .e) (.e))) Tryz.func30 rfl rfl rfl (by kernel_rfl) ?_
 refine tt ⟨⟨by omega,by simp,fun x hx => by rw [List.eq_of_mem_replicate hx]; exact ⟨rfl,oK⟩⟩,tt ⟨rfl,(by omega),?_⟩⟩
 intro i hinv
 have hi := hinv
 refine tt (cd (fun hc15 => ?_) (fun hc15 => ?_))
 · refine ⟨ix,?_⟩
   have hpk := hc.pr i (by omega)
   refine tt ⟨(z7 (c.procs.getD i aB) hpk),⟨⟨⟨rfl,rfl,oK⟩,oK⟩,⟨(gN (f := fun i => aJ (ba c i)) (by omega)),tt ⟨w6,tt ⟨(i + 1),rfl,(?_ : (i + 1) ≤ c.procs.length),(?_ : c.procs.length - (i + 1) < c.procs.length - i)⟩⟩⟩⟩⟩
   · omega
   · omega
 · refine tt ⟨(congrArg _ (?_ : (tab (fun i => aJ (ba c i)) i) = ((aC c).procs))),(congrArg _ (?_ : (List.replicate c.chans.length ([] : List Int)) = ((aC c).chans))),oK⟩
   · rw [show i = c.procs.length by omega]; rfl
   · rfl
abbrev Iv (h : Ch) : Ct := ⟨76,[(.agg [(dS h.name),(i6 h.w),(i6 h.cap),(i6 h.frm),(i6 h.dst)])],false,(i6 h.frm)⟩
theorem B9 (h : Ch) : CC (Iv h) := by
 refine af.vc (V := TT 6 (h.frm = h.frm∧True)) (.e) Tryz.func76 rfl rfl rfl (by kernel_rfl) ?_
 exact tt ⟨rfl,oK⟩
abbrev Ca (c : Ci) (n : Int) : Ct := ⟨75,[(.agg (tF c)),(i6 n),(.fn (.func 76) [] [])],false,(dB (i9 (·.frm) c n))⟩
theorem wh (c : Ci) (n : Int) (hc : b5 c) : CC (Ca c n) := by
 have hnl := hc.nl
 have hcl := hc.cl
 refine af.vc (V := TT 2 (CS (n ≥ 0) (CS (n < (c.chans.length : Int)) (TT 2 ((True∧(decide (n ≥ 0)) = true)∧TT 6 ((True∧(decide (n < (c.chans.length : Int))) = true)∧TT 4 (IX n c.chans.length∧TT 1 (CC (Iv (c.chans.getD n.toNat be))∧TT 4 ((((c.chans.getD n.toNat be).frm) == (-1)) = (i9 (·.frm) c n)∧True)))))) (TT 2 ((True∧(decide (n ≥ 0)) = true)∧TT 6 ((True∧(decide (n < (c.chans.length : Int))) = false)∧TT 11 (false = (i9 (·.frm) c n)∧True))))) (TT 2 ((True∧(decide (n ≥ 0)) = false)∧TT 18 (false = (i9 (·.frm) c n)∧True))))) (.s 1 (n ≥ 0) (.s 1 (n < (c.chans.length : Int)) (.w 1 [(2,.val (dB true)),(9,.val (dB true)),(16,(Iv (c.chans.getD n.toNat be)).O)] <| .e) (.w 1 [(2,.val (dB true)),(9,.val (dB false))] <| .e)) (.w 1 [(2,.val (dB false))] <| .e)) Tryz.func75 rfl rfl rfl (by kernel_rfl) ?_
 refine tt ⟨fun hs0 => ?_,fun hs0 => ?_⟩
 · refine ⟨fun hs1 => ?_,fun hs1 => ?_⟩
   · refine tt ⟨(vT hs0),tt ⟨(vT hs1),tt ⟨ix,tt ⟨(B9 (c.chans.getD n.toNat be)),tt ⟨?_,oK⟩⟩⟩⟩⟩
     first | exact (rA (by omega)).symm | exact (rB (by omega)).symm | exact (kI (by omega) (by omega)).symm | (rw [kI (by omega) (by omega)]; simp)
   · refine tt ⟨(vT hs0),tt ⟨(vF hs1),tt ⟨?_,oK⟩⟩⟩
     first | exact (rA (by omega)).symm | exact (rB (by omega)).symm | exact (kI (by omega) (by omega)).symm | (rw [kI (by omega) (by omega)]; simp)
 · refine tt ⟨(vF hs0),tt ⟨?_,oK⟩⟩
   first | exact (rA (by omega)).symm | exact (rB (by omega)).symm | exact (kI (by omega) (by omega)).symm | (rw [kI (by omega) (by omega)]; simp)
abbrev FS (c : Ci) (s : Ns) (p : Nat) : Ct := ⟨101,[(.agg (tF c)),(.agg [(dL 2 bA b4 s.procs),(dL 1 ac [] s.chans)]),(i6 (p : Int))],true,(.agg [(dB ((ab c s p).fires)),(LI (((ab c s p).s).regs)),(dL 1 ac [] (((ab c s p).s).mems)),(LB ((ab c s p).pops)),(dL 2 cC aY ((ab c s p).puts))])⟩
abbrev j8 (c : Ci) (s : Ns) (p : Nat) : Lp (Nat) := jO [2,3,4,6,7,8,21,22,23] 4 (fun (i : Nat) => ⟨[(2,(i6 (p : Int))),(3,(.ptr 0 0 0 0)),(4,(.ptr 1 0 0 0)),(6,(.ptr 2 0 0 0)),(7,(.own 3)),(8,.nils),(21,(dL 9 lh cm ((c.procs.getD p aB).takes))),(22,(i6 ((((c.procs.getD p aB).takes).length : Nat) : Int))),(23,(i6 (i : Int)))],[(.var 38 (tF c)),(.var 42 [(dL 2 bA b4 s.procs),(dL 1 ac [] s.chans)]),(.var 179 [(dB false),.nils,.nils,.nils,.nils]),(.arr 182 2 cC aY (tab (cD c s p) i))]⟩) (fun (i : Nat) => i ≤ (c.procs.getD p aB).takes.length) (fun (i : Nat) => (c.procs.getD p aB).takes.length - i)
abbrev j9 (c : Ci) (s : Ns) (p : Nat) (i : Nat) : Lp (Nat) := jO [2,3,4,6,7,8,50,51,52] 5 (fun (m : Nat) => ⟨[(2,(i6 (p : Int))),(3,(.ptr 0 0 0 0)),(4,(.ptr 1 0 0 0)),(6,(.ptr 2 0 0 0)),(7,(.own 3)),(8,(.own 4)),(50,(dL 16 gY bt ((c.procs.getD p aB).puts))),(51,(i6 ((((c.procs.getD p aB).puts).length : Nat) : Int))),(52,(i6 (m : Int)))],[(.var 38 (tF c)),(.var 42 [(dL 2 bA b4 s.procs),(dL 1 ac [] s.chans)]),(.var 179 [(dB false),.nils,.nils,.nils,.nils]),(.arr 182 2 cC aY (tab (cD c s p) i)),(.arr 4 1 bD false (tab (co c s p) m))]⟩) (fun (m : Nat) => m ≤ (c.procs.getD p aB).puts.length) (fun (m : Nat) => (c.procs.getD p aB).puts.length - m)
theorem Cb (c : Ci) (s : Ns) (p : Nat) (hc : b5 c) (hs : cT c s) (hp : p < c.procs.length) : CC (FS c s p) := by
 have hnl := hc.nl
 have hcl := hc.cl
 have hpk : gi (c.procs.getD p aB) := hc.pr p hp
 have hl1 := hs.pl
 have hl2 := hs.cl
 have ht1 : (c.procs.getD p aB).takes.length ≤ 100 := hpk.tl
 have ht2 : (c.procs.getD p aB).puts.length ≤ 100 := hpk.pl
 refine af.vc (V := TT 8 (IX (p : Int) c.procs.length∧TT 4 (GO (j8 c s p) 0 (∀ i,(j8 c s p).inv i → TT 1 (CD ((i : Int) < ((((c.procs.getD p aB).takes).length : Nat) : Int)) (IX (i : Int) (((c.procs.getD p aB).takes).length)∧TT 8 (IX ((((c.procs.getD p aB).takes).getD i cm).chan) s.chans.length∧TT 5 (CD ((((s.chans.getD (((((c.procs.getD p aB).takes).getD i cm).chan).toNat) []).length : Nat) : Int) > 0) (TT 1 (IX 0 ((s.chans.getD (((((c.procs.getD p aB).takes).getD i cm).chan).toNat) []).length)∧TT 5 (an [[(dB true),(i6 ((s.chans.getD (((((c.procs.getD p aB).takes).getD i cm).chan).toNat) []).getD 0 0))]] ([(⟨true,((s.chans.getD (((((c.procs.getD p aB).takes).getD i cm).chan).toNat) []).getD 0 0)⟩ : Hd)].map cC)∧((tab (cD c s p) i).length + ([(⟨true,((s.chans.getD (((((c.procs.getD p aB).takes).getD i cm).chan).toNat) []).getD 0 0)⟩ : Hd)].map cC).length ≤ 137438953472∧(tab (cD c s p) i).map cC ++ [(⟨true,((s.chans.getD (((((c.procs.getD p aB).takes).getD i cm).chan).toNat) []).getD 0 0)⟩ : Hd)].map cC = (tab (cD c s p) (i + 1)).map cC)∧TT 1 (W6 ((i + 1 : Nat) : Int)∧TT 1 (AG (j8 c s p) i (i + 1)))))) (TT 2 (an [[(dB false),(i6 0)]] ([(⟨false,0⟩ : Hd)].map cC)∧((tab (cD c s p) i).length + ([(⟨false,0⟩ : Hd)].map cC).length ≤ 137438953472∧(tab (cD c s p) i).map cC ++ [(⟨false,0⟩ : Hd)].map cC = (tab (cD c s p) (i + 1)).map cC)∧TT 1 (W6 ((i + 1 : Nat) : Int)∧TT 1 (AG (j8 c s p) i (i + 1)))))))) (TT 3 (IX (p : Int) c.procs.length∧TT 4 (GO (j9 c s p i) 0 (∀ m,(j9 c s p i).inv m → TT 1 (CD ((m : Int) < ((((c.procs.getD p aB).puts).length : Nat) : Int)) (IX (m : Int) (((c.procs.getD p aB).puts).length)∧TT 7 (IX ((((c.procs.getD p aB).puts).getD m bt).chan) c.chans.length∧TT 3 (CS (((c.chans.getD (((((c.procs.getD p aB).puts).getD m bt).chan).toNat) be).dst) = (-1)) (TT 4 ((True∧(decide (((c.chans.getD (((((c.procs.getD p aB).puts).getD m bt).chan).toNat) be).dst) = (-1))) = true)∧TT 1 (an [[(dB true)]] ([true].map bD)∧((tab (co c s p) m).length + ([true].map bD).length ≤ 137438953472∧(tab (co c s p) m).map bD ++ [true].map bD = (tab (co c s p) (m + 1)).map bD)∧TT 1 (W6 ((m + 1 : Nat) : Int)∧TT 1 (AG (j9 c s p i) m (m + 1)))))) (TT 4 ((True∧(decide (((c.chans.getD (((((c.procs.getD p aB).puts).getD m bt).chan).toNat) be).dst) = (-1))) = false)∧TT 4 (IX ((((c.procs.getD p aB).puts).getD m bt).chan) s.chans.length∧TT 6 (an [[(dB (decide ((((s.chans.getD (((((c.procs.getD p aB).puts).getD m bt).chan).toNat) []).length : Nat) : Int) < ((c.chans.getD (((((c.procs.getD p aB).puts).getD m bt).chan).toNat) be).cap))))]] ([decide ((((s.chans.getD (((((c.procs.getD p aB).puts).getD m bt).chan).toNat) []).length : Nat) : Int) < ((c.chans.getD (((((c.procs.getD p aB).puts).getD m bt).chan).toNat) be).cap))].map bD)∧((tab (co c s p) m).length + ([decide ((((s.chans.getD (((((c.procs.getD p aB).puts).getD m bt).chan).toNat) []).length : Nat) : Int) < ((c.chans.getD (((((c.procs.getD p aB).puts).getD m bt).chan).toNat) be).cap))].map bD).length ≤ 137438953472∧(tab (co c s p) m).map bD ++ [decide ((((s.chans.getD (((((c.procs.getD p aB).puts).getD m bt).chan).toNat) []).length : Nat) : Int) < ((c.chans.getD (((((c.procs.getD p aB).puts).getD m bt).chan).toNat) be).cap))].map bD = (tab (co c s p) (m + 1)).map bD)∧TT 1 (W6 ((m + 1 : Nat) : Int)∧TT 1 (AG (j9 c s p i) m (m + 1)))))))))) (TT 3 (IX (p : Int) c.procs.length∧TT 4 (IX (p : Int) s.procs.length∧TT 3 (CC (FM (c.procs.getD p aB) (s.procs.getD p b4) (tab (cD c s p) i) (tab (co c s p) m))∧TT 2 (((a6 (c.procs.getD p aB) (s.procs.getD p b4) (tab (cD c s p) i) (tab (co c s p) m)).fires) = ((ab c s p).fires)∧(((a6 (c.procs.getD p aB) (s.procs.getD p b4) (tab (cD c s p) i) (tab (co c s p) m)).s).regs).map (ah .i64) = (((ab c s p).s).regs).map (ah .i64)∧(((a6 (c.procs.getD p aB) (s.procs.getD p b4) (tab (cD c s p) i) (tab (co c s p) m)).s).mems).map ac = (((ab c s p).s).mems).map ac∧((a6 (c.procs.getD p aB) (s.procs.getD p b4) (tab (cD c s p) i) (tab (co c s p) m)).pops).map bD = ((ab c s p).pops).map bD∧((a6 (c.procs.getD p aB) (s.procs.getD p b4) (tab (cD c s p) i) (tab (co c s p) m)).puts).map cC = ((ab c s p).puts).map cC∧True))))))))))))))) (.gs 3 7 182 2 cC aY <| .l (j8 c s p) 0 (fun i => .b 24 (.b 35 (.w 10 [(2,.box 182 2 cC aY [(⟨true,((s.chans.getD (((((c.procs.getD p aB).takes).getD i cm).chan).toNat) []).getD 0 0)⟩ : Hd)]),(3,.box 182 2 cC aY (tab (cD c s p) (i + 1)))] <| .w 11 [(0,.val (i6 ((i + 1 : Nat) : Int)))] <| .e) (.w 10 [(2,.box 182 2 cC aY [(⟨false,0⟩ : Hd)]),(3,.box 182 2 cC aY (tab (cD c s p) (i + 1)))] <| .w 11 [(0,.val (i6 ((i + 1 : Nat) : Int)))] <| .e)) (.gs 12 8 4 1 bD false <| .l (j9 c s p i) 0 (fun m => .b 53 (.s 16 (((c.chans.getD (((((c.procs.getD p aB).puts).getD m bt).chan).toNat) be).dst) = (-1)) (.w 16 [(4,.val (dB true)),(16,.box 4 1 bD false [true]),(17,.box 4 1 bD false (tab (co c s p) (m + 1)))] <| .w 17 [(0,.val (i6 ((m + 1 : Nat) : Int)))] <| .e) (.w 16 [(4,.val (dB false)),(16,.box 4 1 bD false [decide ((((s.chans.getD (((((c.procs.getD p aB).puts).getD m bt).chan).toNat) []).length : Nat) : Int) < ((c.chans.getD (((((c.procs.getD p aB).puts).getD m bt).chan).toNat) be).cap))]),(17,.box 4 1 bD false (tab (co c s p) (m + 1)))] <| .w 17 [(0,.val (i6 ((m + 1 : Nat) : Int)))] <| .e)) (.f 18 3 <| .f 18 4 <| .w 18 [(12,(FM (c.procs.getD p aB) (s.procs.getD p b4) (tab (cD c s p) i) (tab (co c s p) m)).O)] <| .e))))) Tryz.func101 rfl rfl rfl (by kernel_rfl) ?_
 refine tt ⟨ix,tt ⟨rfl,(by omega),?_⟩⟩
 intro i hinv
 have hi := hinv
 refine tt (cd (fun hc24 => ?_) (fun hc24 => ?_))
 · refine ⟨ix,?_⟩
   have htk : 0 ≤ ((c.procs.getD p aB).takes.getD i cm).chan∧((c.procs.getD p aB).takes.getD i cm).chan < c.chans.length := ⟨(hc.tk p hp i (show i < (c.procs.getD p aB).takes.length by omega)).1,(hc.tk p hp i (show i < (c.procs.getD p aB).takes.length by omega)).2.1⟩
   refine tt ⟨ix,tt (cd (fun hc35 => ?_) (fun hc35 => ?_))⟩
   · refine tt ⟨ix,tt ⟨⟨⟨rfl,rfl,oK⟩,oK⟩,⟨(bX (by omega) (by first | exact (if_pos (show 0 < (s.chans.getD ((c.procs.getD p aB).takes.getD i cm).chan.toNat []).length by omega)).symm | exact (if_neg (show ¬0 < (s.chans.getD ((c.procs.getD p aB).takes.getD i cm).chan.toNat []).length by omega)).symm)),tt ⟨w6,tt ⟨(i + 1),rfl,(?_ : (i + 1) ≤ (c.procs.getD p aB).takes.length),(?_ : (c.procs.getD p aB).takes.length - (i + 1) < (c.procs.getD p aB).takes.length - i)⟩⟩⟩⟩⟩
     · omega
     · omega
   · refine tt ⟨⟨⟨rfl,rfl,oK⟩,oK⟩,⟨(bX (by omega) (by first | exact (if_pos (show 0 < (s.chans.getD ((c.procs.getD p aB).takes.getD i cm).chan.toNat []).length by omega)).symm | exact (if_neg (show ¬0 < (s.chans.getD ((c.procs.getD p aB).takes.getD i cm).chan.toNat []).length by omega)).symm)),tt ⟨w6,tt ⟨(i + 1),rfl,(?_ : (i + 1) ≤ (c.procs.getD p aB).takes.length),(?_ : (c.procs.getD p aB).takes.length - (i + 1) < (c.procs.getD p aB).takes.length - i)⟩⟩⟩⟩
     · omega
     · omega
 · refine tt ⟨ix,tt ⟨rfl,(by omega),?_⟩⟩
   intro m hinv
   have hm := hinv
   refine tt (cd (fun hc53 => ?_) (fun hc53 => ?_))
   · refine ⟨ix,?_⟩
     have hpt : 0 ≤ ((c.procs.getD p aB).puts.getD m bt).chan∧((c.procs.getD p aB).puts.getD m bt).chan < c.chans.length := ⟨(hc.pt p hp m (show m < (c.procs.getD p aB).puts.length by omega)).1,(hc.pt p hp m (show m < (c.procs.getD p aB).puts.length by omega)).2.1⟩
     refine tt ⟨ix,tt ⟨fun hs0 => ?_,fun hs0 => ?_⟩⟩
     · refine tt ⟨(vT hs0),tt ⟨⟨⟨rfl,oK⟩,oK⟩,⟨(bX (by omega) (by first | exact (B8 hs0).symm | exact (uP hs0).symm | exact (uP hs1).symm)),tt ⟨w6,tt ⟨(m + 1),rfl,(?_ : (m + 1) ≤ (c.procs.getD p aB).puts.length),(?_ : (c.procs.getD p aB).puts.length - (m + 1) < (c.procs.getD p aB).puts.length - m)⟩⟩⟩⟩⟩
       · omega
       · omega
     · refine tt ⟨(vF hs0),tt ⟨ix,tt ⟨⟨⟨rfl,oK⟩,oK⟩,⟨(bX (by omega) (by first | exact (B8 hs0).symm | exact (uP hs0).symm | exact (uP hs1).symm)),tt ⟨w6,tt ⟨(m + 1),rfl,(?_ : (m + 1) ≤ (c.procs.getD p aB).puts.length),(?_ : (c.procs.getD p aB).puts.length - (m + 1) < (c.procs.getD p aB).puts.length - m)⟩⟩⟩⟩⟩⟩
       · omega
       · omega
   · have hie : i = (c.procs.getD p aB).takes.length := by omega
     have hme : m = (c.procs.getD p aB).puts.length := by omega
     refine tt ⟨ix,tt ⟨ix,tt ⟨(BV (c.procs.getD p aB) (s.procs.getD p b4) (tab (cD c s p) i) (tab (co c s p) m) hpk (hs.pv p hp) (by rw [hie]; exact nd hc hs hp) (by rw [aK]; omega)),tt ⟨?_,(congrArg _ (?_ : (((a6 (c.procs.getD p aB) (s.procs.getD p b4) (tab (cD c s p) i) (tab (co c s p) m)).s).regs) = (((ab c s p).s).regs))),(congrArg _ (?_ : (((a6 (c.procs.getD p aB) (s.procs.getD p b4) (tab (cD c s p) i) (tab (co c s p) m)).s).mems) = (((ab c s p).s).mems))),(congrArg _ (?_ : ((a6 (c.procs.getD p aB) (s.procs.getD p b4) (tab (cD c s p) i) (tab (co c s p) m)).pops) = ((ab c s p).pops))),(congrArg _ (?_ : ((a6 (c.procs.getD p aB) (s.procs.getD p b4) (tab (cD c s p) i) (tab (co c s p) m)).puts) = ((ab c s p).puts))),oK⟩⟩⟩⟩
     all_goals (all_goals (rw [hie,hme]; rfl))
end Go.Proofs.YtgmpoenfoacofaaGreat
