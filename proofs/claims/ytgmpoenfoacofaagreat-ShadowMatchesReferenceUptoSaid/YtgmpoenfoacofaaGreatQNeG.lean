/-
  Package network: valid states, starts, what a process does.
-/
import Derived.Test.YtgmpoenfoacofaaGreatQNeE
namespace Go.Proofs.YtgmpoenfoacofaaGreat
open Go.RowKit
set_option linter.unusedVariables false
set_option linter.unusedSimpArgs false
abbrev vY (c : Ci) : List D := [(dL 6 eu au c.procs),(dL 5 eB bi c.chans)]
set_option maxRecDepth 100000
abbrev K9 (c : Ci) : Ct := ⟨30,[(.agg (vY c))],true,(.agg [(dL 2 aV a7 ((aB c).procs)),(dL 1 ac [] ((aB c).chans))])⟩
abbrev lW (c : Ci) : Lp (Nat) := f6 [2,3,12,13,14] 5 (fun (i : Nat) => ⟨[(2,(.ptr 1 0 0 0)),(3,(.ptr 3 0 0 0)),(12,(dL 6 eu au c.procs)),(13,(i6 (c.procs.length : Int))),(14,(i6 (i : Int)))],[(.var 38 (vY c)),(.var 42 [.nils,.nils]),(.arr 28 1 ac [] (List.replicate c.chans.length ([] : List Int))),(.var 42 [(.own 4),(.own 2)]),(.arr 112 2 aV a7 (tab (fun i => aN (bK c i)) i))]⟩) (fun (i : Nat) => i ≤ c.procs.length) (fun (i : Nat) => c.procs.length - i)
theorem CZ (c : Ci) (hc : bC c) : CC (K9 c) := by
 have hnl := hc.nl
 have hcl := hc.cl
 refine af.vc (V := TT 5 ((((0 : Int) ≤ (c.chans.length : Int)∧(c.chans.length : Int) ≤ (c.chans.length : Int)∧(c.chans.length : Int) ≤ 137438953472)∧(List.replicate c.chans.length ([] : List Int)).length = c.chans.length∧∀ x ∈ (List.replicate c.chans.length ([] : List Int)),cB [.nils] (ac x))∧TT 7 (GO (lW c) 0 (∀ i,(lW c).inv i → TT 1 (CD ((i : Int) < (c.procs.length : Int)) (IX (i : Int) c.procs.length∧TT 6 (CC (KZ (c.procs.getD i au))∧am [[(LI ((aN (c.procs.getD i au)).regs)),(dL 1 ac [] ((aN (c.procs.getD i au)).mems))]] ([(⟨(aN (c.procs.getD i au)).regs,(aN (c.procs.getD i au)).mems⟩ : Ps)].map aV)∧((tab (fun i => aN (bK c i)) i).length + ([(⟨(aN (c.procs.getD i au)).regs,(aN (c.procs.getD i au)).mems⟩ : Ps)].map aV).length ≤ 137438953472∧(tab (fun i => aN (bK c i)) i).map aV ++ [(⟨(aN (c.procs.getD i au)).regs,(aN (c.procs.getD i au)).mems⟩ : Ps)].map aV = (tab (fun i => aN (bK c i)) (i + 1)).map aV)∧TT 2 (W6 ((i + 1 : Nat) : Int)∧TT 1 (AG (lW c) i (i + 1))))) (TT 3 ((tab (fun i => aN (bK c i)) i).map aV = ((aB c).procs).map aV∧(List.replicate c.chans.length ([] : List Int)).map ac = ((aB c).chans).map ac∧True))))))) (.w 1 [(3,.box 28 1 ac [] (List.replicate c.chans.length ([] : List Int)))] <| .g 2 3 0 112 2 aV a7 <| .l (lW c) 0 (fun i => .b 15 (.w 5 [(3,(KZ (c.procs.getD i au)).O),(4,.box 112 2 aV a7 [(⟨(aN (c.procs.getD i au)).regs,(aN (c.procs.getD i au)).mems⟩ : Ps)]),(5,.box 112 2 aV a7 (tab (fun i => aN (bK c i)) (i + 1)))] <| .w 6 [(0,.val (i6 ((i + 1 : Nat) : Int)))] <| .e) (.e))) Tryz.func30 rfl rfl rfl (by kernel_rfl) ?_
 refine tt ⟨⟨by omega,by simp,fun x hx => by rw [List.eq_of_mem_replicate hx]; exact ⟨rfl,oK⟩⟩,tt ⟨rfl,(by omega),?_⟩⟩
 intro i hinv
 have hi := hinv
 refine tt (cd (fun hc15 => ?_) (fun hc15 => ?_))
 · refine ⟨ix,?_⟩
   have hpk := hc.pr i (by omega)
   refine tt ⟨(CP (c.procs.getD i au) hpk),⟨⟨⟨rfl,rfl,oK⟩,oK⟩,⟨(fA (f := fun i => aN (bK c i)) (by omega)),tt ⟨w6,tt ⟨(i + 1),rfl,(?_ : (i + 1) ≤ c.procs.length),(?_ : c.procs.length - (i + 1) < c.procs.length - i)⟩⟩⟩⟩⟩
   · omega
   · omega
 · refine tt ⟨(congrArg _ (?_ : (tab (fun i => aN (bK c i)) i) = ((aB c).procs))),(congrArg _ (?_ : (List.replicate c.chans.length ([] : List Int)) = ((aB c).chans))),oK⟩
   · rw [show i = c.procs.length by omega]; rfl
   · rfl
abbrev La (h : Ch) : Ct := ⟨76,[(.agg [(dS h.name),(i6 h.w),(i6 h.cap),(i6 h.frm),(i6 h.dst)])],false,(i6 h.frm)⟩
theorem ET (h : Ch) : CC (La h) := by
 refine af.vc (V := TT 6 (h.frm = h.frm∧True)) (.e) Tryz.func76 rfl rfl rfl (by kernel_rfl) ?_
 exact tt ⟨rfl,oK⟩
abbrev EU (c : Ci) (n : Int) : Ct := ⟨75,[(.agg (vY c)),(i6 n),(.fn (.func 76) [] [])],false,(dB (fP (·.frm) c n))⟩
theorem yL (c : Ci) (n : Int) (hc : bC c) : CC (EU c n) := by
 have hnl := hc.nl
 have hcl := hc.cl
 refine af.vc (V := TT 2 (CS (n ≥ 0) (CS (n < (c.chans.length : Int)) (TT 2 ((True∧(decide (n ≥ 0)) = true)∧TT 6 ((True∧(decide (n < (c.chans.length : Int))) = true)∧TT 4 (IX n c.chans.length∧TT 1 (CC (La (c.chans.getD n.toNat bi))∧TT 4 ((((c.chans.getD n.toNat bi).frm) == (-1)) = (fP (·.frm) c n)∧True)))))) (TT 2 ((True∧(decide (n ≥ 0)) = true)∧TT 6 ((True∧(decide (n < (c.chans.length : Int))) = false)∧TT 11 (false = (fP (·.frm) c n)∧True))))) (TT 2 ((True∧(decide (n ≥ 0)) = false)∧TT 18 (false = (fP (·.frm) c n)∧True))))) (.s 1 (n ≥ 0) (.s 1 (n < (c.chans.length : Int)) (.w 1 [(2,.val (dB true)),(9,.val (dB true)),(16,(La (c.chans.getD n.toNat bi)).O)] <| .e) (.w 1 [(2,.val (dB true)),(9,.val (dB false))] <| .e)) (.w 1 [(2,.val (dB false))] <| .e)) Tryz.func75 rfl rfl rfl (by kernel_rfl) ?_
 refine tt ⟨fun hs0 => ?_,fun hs0 => ?_⟩
 · refine ⟨fun hs1 => ?_,fun hs1 => ?_⟩
   · refine tt ⟨(vT hs0),tt ⟨(vT hs1),tt ⟨ix,tt ⟨(ET (c.chans.getD n.toNat bi)),tt ⟨?_,oK⟩⟩⟩⟩⟩
     first | exact (fQ (by omega)).symm | exact (fR (by omega)).symm | exact (lS (by omega) (by omega)).symm | (rw [lS (by omega) (by omega)]; simp)
   · refine tt ⟨(vT hs0),tt ⟨(vF hs1),tt ⟨?_,oK⟩⟩⟩
     first | exact (fQ (by omega)).symm | exact (fR (by omega)).symm | exact (lS (by omega) (by omega)).symm | (rw [lS (by omega) (by omega)]; simp)
 · refine tt ⟨(vF hs0),tt ⟨?_,oK⟩⟩
   first | exact (fQ (by omega)).symm | exact (fR (by omega)).symm | exact (lS (by omega) (by omega)).symm | (rw [lS (by omega) (by omega)]; simp)
abbrev Ir (c : Ci) (s : Ns) (p : Nat) : Ct := ⟨101,[(.agg (vY c)),(.agg [(dL 2 aV a7 s.procs),(dL 1 ac [] s.chans)]),(i6 (p : Int))],true,(.agg [(dB ((ab c s p).fires)),(LI (((ab c s p).s).regs)),(dL 1 ac [] (((ab c s p).s).mems)),(LB ((ab c s p).pops)),(dL 2 bI aO ((ab c s p).puts))])⟩
abbrev kX (c : Ci) (s : Ns) (p : Nat) : Lp (Nat) := f6 [2,3,4,6,7,8,21,22,23] 4 (fun (i : Nat) => ⟨[(2,(i6 (p : Int))),(3,(.ptr 0 0 0 0)),(4,(.ptr 1 0 0 0)),(6,(.ptr 2 0 0 0)),(7,(.own 3)),(8,.nils),(21,(dL 9 ji bB ((c.procs.getD p au).takes))),(22,(i6 ((((c.procs.getD p au).takes).length : Nat) : Int))),(23,(i6 (i : Int)))],[(.var 38 (vY c)),(.var 42 [(dL 2 aV a7 s.procs),(dL 1 ac [] s.chans)]),(.var 179 [(dB false),.nils,.nils,.nils,.nils]),(.arr 182 2 bI aO (tab (bR c s p) i))]⟩) (fun (i : Nat) => i ≤ (c.procs.getD p au).takes.length) (fun (i : Nat) => (c.procs.getD p au).takes.length - i)
abbrev kY (c : Ci) (s : Ns) (p : Nat) (i : Nat) : Lp (Nat) := f6 [2,3,4,6,7,8,50,51,52] 5 (fun (m : Nat) => ⟨[(2,(i6 (p : Int))),(3,(.ptr 0 0 0 0)),(4,(.ptr 1 0 0 0)),(6,(.ptr 2 0 0 0)),(7,(.own 3)),(8,(.own 4)),(50,(dL 16 gE bf ((c.procs.getD p au).puts))),(51,(i6 ((((c.procs.getD p au).puts).length : Nat) : Int))),(52,(i6 (m : Int)))],[(.var 38 (vY c)),(.var 42 [(dL 2 aV a7 s.procs),(dL 1 ac [] s.chans)]),(.var 179 [(dB false),.nils,.nils,.nils,.nils]),(.arr 182 2 bI aO (tab (bR c s p) i)),(.arr 4 1 aF false (tab (bS c s p) m))]⟩) (fun (m : Nat) => m ≤ (c.procs.getD p au).puts.length) (fun (m : Nat) => (c.procs.getD p au).puts.length - m)
theorem EV (c : Ci) (s : Ns) (p : Nat) (hc : bC c) (hs : b8 c s) (hp : p < c.procs.length) : CC (Ir c s p) := by
 have hnl := hc.nl
 have hcl := hc.cl
 have hpk : gv (c.procs.getD p au) := hc.pr p hp
 have hl1 := hs.pl
 have hl2 := hs.cl
 have ht1 : (c.procs.getD p au).takes.length ≤ 100 := hpk.tl
 have ht2 : (c.procs.getD p au).puts.length ≤ 100 := hpk.pl
 refine af.vc (V := TT 8 (IX (p : Int) c.procs.length∧TT 4 (GO (kX c s p) 0 (∀ i,(kX c s p).inv i → TT 1 (CD ((i : Int) < ((((c.procs.getD p au).takes).length : Nat) : Int)) (IX (i : Int) (((c.procs.getD p au).takes).length)∧TT 8 (IX ((((c.procs.getD p au).takes).getD i bB).chan) s.chans.length∧TT 5 (CD ((((s.chans.getD (((((c.procs.getD p au).takes).getD i bB).chan).toNat) []).length : Nat) : Int) > 0) (TT 1 (IX 0 ((s.chans.getD (((((c.procs.getD p au).takes).getD i bB).chan).toNat) []).length)∧TT 5 (am [[(dB true),(i6 ((s.chans.getD (((((c.procs.getD p au).takes).getD i bB).chan).toNat) []).getD 0 0))]] ([(⟨true,((s.chans.getD (((((c.procs.getD p au).takes).getD i bB).chan).toNat) []).getD 0 0)⟩ : Hd)].map bI)∧((tab (bR c s p) i).length + ([(⟨true,((s.chans.getD (((((c.procs.getD p au).takes).getD i bB).chan).toNat) []).getD 0 0)⟩ : Hd)].map bI).length ≤ 137438953472∧(tab (bR c s p) i).map bI ++ [(⟨true,((s.chans.getD (((((c.procs.getD p au).takes).getD i bB).chan).toNat) []).getD 0 0)⟩ : Hd)].map bI = (tab (bR c s p) (i + 1)).map bI)∧TT 1 (W6 ((i + 1 : Nat) : Int)∧TT 1 (AG (kX c s p) i (i + 1)))))) (TT 2 (am [[(dB false),(i6 0)]] ([(⟨false,0⟩ : Hd)].map bI)∧((tab (bR c s p) i).length + ([(⟨false,0⟩ : Hd)].map bI).length ≤ 137438953472∧(tab (bR c s p) i).map bI ++ [(⟨false,0⟩ : Hd)].map bI = (tab (bR c s p) (i + 1)).map bI)∧TT 1 (W6 ((i + 1 : Nat) : Int)∧TT 1 (AG (kX c s p) i (i + 1)))))))) (TT 3 (IX (p : Int) c.procs.length∧TT 4 (GO (kY c s p i) 0 (∀ m,(kY c s p i).inv m → TT 1 (CD ((m : Int) < ((((c.procs.getD p au).puts).length : Nat) : Int)) (IX (m : Int) (((c.procs.getD p au).puts).length)∧TT 7 (IX ((((c.procs.getD p au).puts).getD m bf).chan) c.chans.length∧TT 3 (CS (((c.chans.getD (((((c.procs.getD p au).puts).getD m bf).chan).toNat) bi).dst) = (-1)) (TT 4 ((True∧(decide (((c.chans.getD (((((c.procs.getD p au).puts).getD m bf).chan).toNat) bi).dst) = (-1))) = true)∧TT 1 (am [[(dB true)]] ([true].map aF)∧((tab (bS c s p) m).length + ([true].map aF).length ≤ 137438953472∧(tab (bS c s p) m).map aF ++ [true].map aF = (tab (bS c s p) (m + 1)).map aF)∧TT 1 (W6 ((m + 1 : Nat) : Int)∧TT 1 (AG (kY c s p i) m (m + 1)))))) (TT 4 ((True∧(decide (((c.chans.getD (((((c.procs.getD p au).puts).getD m bf).chan).toNat) bi).dst) = (-1))) = false)∧TT 4 (IX ((((c.procs.getD p au).puts).getD m bf).chan) s.chans.length∧TT 6 (am [[(dB (decide ((((s.chans.getD (((((c.procs.getD p au).puts).getD m bf).chan).toNat) []).length : Nat) : Int) < ((c.chans.getD (((((c.procs.getD p au).puts).getD m bf).chan).toNat) bi).cap))))]] ([decide ((((s.chans.getD (((((c.procs.getD p au).puts).getD m bf).chan).toNat) []).length : Nat) : Int) < ((c.chans.getD (((((c.procs.getD p au).puts).getD m bf).chan).toNat) bi).cap))].map aF)∧((tab (bS c s p) m).length + ([decide ((((s.chans.getD (((((c.procs.getD p au).puts).getD m bf).chan).toNat) []).length : Nat) : Int) < ((c.chans.getD (((((c.procs.getD p au).puts).getD m bf).chan).toNat) bi).cap))].map aF).length ≤ 137438953472∧(tab (bS c s p) m).map aF ++ [decide ((((s.chans.getD (((((c.procs.getD p au).puts).getD m bf).chan).toNat) []).length : Nat) : Int) < ((c.chans.getD (((((c.procs.getD p au).puts).getD m bf).chan).toNat) bi).cap))].map aF = (tab (bS c s p) (m + 1)).map aF)∧TT 1 (W6 ((m + 1 : Nat) : Int)∧TT 1 (AG (kY c s p i) m (m + 1)))))))))) (TT 3 (IX (p : Int) c.procs.length∧TT 4 (IX (p : Int) s.procs.length∧TT 3 (CC (Ik (c.procs.getD p au) (s.procs.getD p a7) (tab (bR c s p) i) (tab (bS c s p) m))∧TT 2 (((aJ (c.procs.getD p au) (s.procs.getD p a7) (tab (bR c s p) i) (tab (bS c s p) m)).fires) = ((ab c s p).fires)∧(((aJ (c.procs.getD p au) (s.procs.getD p a7) (tab (bR c s p) i) (tab (bS c s p) m)).s).regs).map (ae .i64) = (((ab c s p).s).regs).map (ae .i64)∧(((aJ (c.procs.getD p au) (s.procs.getD p a7) (tab (bR c s p) i) (tab (bS c s p) m)).s).mems).map ac = (((ab c s p).s).mems).map ac∧((aJ (c.procs.getD p au) (s.procs.getD p a7) (tab (bR c s p) i) (tab (bS c s p) m)).pops).map aF = ((ab c s p).pops).map aF∧((aJ (c.procs.getD p au) (s.procs.getD p a7) (tab (bR c s p) i) (tab (bS c s p) m)).puts).map bI = ((ab c s p).puts).map bI∧True))))))))))))))) (.gs 3 7 182 2 bI aO <| .l (kX c s p) 0 (fun i => .b 24 (.b 35 (.w 10 [(2,.box 182 2 bI aO [(⟨true,((s.chans.getD (((((c.procs.getD p au).takes).getD i bB).chan).toNat) []).getD 0 0)⟩ : Hd)]),(3,.box 182 2 bI aO (tab (bR c s p) (i + 1)))] <| .w 11 [(0,.val (i6 ((i + 1 : Nat) : Int)))] <| .e) (.w 10 [(2,.box 182 2 bI aO [(⟨false,0⟩ : Hd)]),(3,.box 182 2 bI aO (tab (bR c s p) (i + 1)))] <| .w 11 [(0,.val (i6 ((i + 1 : Nat) : Int)))] <| .e)) (.gs 12 8 4 1 aF false <| .l (kY c s p i) 0 (fun m => .b 53 (.s 16 (((c.chans.getD (((((c.procs.getD p au).puts).getD m bf).chan).toNat) bi).dst) = (-1)) (.w 16 [(4,.val (dB true)),(16,.box 4 1 aF false [true]),(17,.box 4 1 aF false (tab (bS c s p) (m + 1)))] <| .w 17 [(0,.val (i6 ((m + 1 : Nat) : Int)))] <| .e) (.w 16 [(4,.val (dB false)),(16,.box 4 1 aF false [decide ((((s.chans.getD (((((c.procs.getD p au).puts).getD m bf).chan).toNat) []).length : Nat) : Int) < ((c.chans.getD (((((c.procs.getD p au).puts).getD m bf).chan).toNat) bi).cap))]),(17,.box 4 1 aF false (tab (bS c s p) (m + 1)))] <| .w 17 [(0,.val (i6 ((m + 1 : Nat) : Int)))] <| .e)) (.f 18 3 <| .f 18 4 <| .w 18 [(12,(Ik (c.procs.getD p au) (s.procs.getD p a7) (tab (bR c s p) i) (tab (bS c s p) m)).O)] <| .e))))) Tryz.func101 rfl rfl rfl (by kernel_rfl) ?_
 refine tt ⟨ix,tt ⟨rfl,(by omega),?_⟩⟩
 intro i hinv
 have hi := hinv
 refine tt (cd (fun hc24 => ?_) (fun hc24 => ?_))
 · refine ⟨ix,?_⟩
   have htk : 0 ≤ ((c.procs.getD p au).takes.getD i bB).chan∧((c.procs.getD p au).takes.getD i bB).chan < c.chans.length := ⟨(hc.tk p hp i (show i < (c.procs.getD p au).takes.length by omega)).1,(hc.tk p hp i (show i < (c.procs.getD p au).takes.length by omega)).2.1⟩
   refine tt ⟨ix,tt (cd (fun hc35 => ?_) (fun hc35 => ?_))⟩
   · refine tt ⟨ix,tt ⟨⟨⟨rfl,rfl,oK⟩,oK⟩,⟨(bh (by omega) (by first | exact (if_pos (show 0 < (s.chans.getD ((c.procs.getD p au).takes.getD i bB).chan.toNat []).length by omega)).symm | exact (if_neg (show ¬0 < (s.chans.getD ((c.procs.getD p au).takes.getD i bB).chan.toNat []).length by omega)).symm)),tt ⟨w6,tt ⟨(i + 1),rfl,(?_ : (i + 1) ≤ (c.procs.getD p au).takes.length),(?_ : (c.procs.getD p au).takes.length - (i + 1) < (c.procs.getD p au).takes.length - i)⟩⟩⟩⟩⟩
     · omega
     · omega
   · refine tt ⟨⟨⟨rfl,rfl,oK⟩,oK⟩,⟨(bh (by omega) (by first | exact (if_pos (show 0 < (s.chans.getD ((c.procs.getD p au).takes.getD i bB).chan.toNat []).length by omega)).symm | exact (if_neg (show ¬0 < (s.chans.getD ((c.procs.getD p au).takes.getD i bB).chan.toNat []).length by omega)).symm)),tt ⟨w6,tt ⟨(i + 1),rfl,(?_ : (i + 1) ≤ (c.procs.getD p au).takes.length),(?_ : (c.procs.getD p au).takes.length - (i + 1) < (c.procs.getD p au).takes.length - i)⟩⟩⟩⟩
     · omega
     · omega
 · refine tt ⟨ix,tt ⟨rfl,(by omega),?_⟩⟩
   intro m hinv
   have hm := hinv
   refine tt (cd (fun hc53 => ?_) (fun hc53 => ?_))
   · refine ⟨ix,?_⟩
     have hpt : 0 ≤ ((c.procs.getD p au).puts.getD m bf).chan∧((c.procs.getD p au).puts.getD m bf).chan < c.chans.length := ⟨(hc.pt p hp m (show m < (c.procs.getD p au).puts.length by omega)).1,(hc.pt p hp m (show m < (c.procs.getD p au).puts.length by omega)).2.1⟩
     refine tt ⟨ix,tt ⟨fun hs0 => ?_,fun hs0 => ?_⟩⟩
     · refine tt ⟨(vT hs0),tt ⟨⟨⟨rfl,oK⟩,oK⟩,⟨(bh (by omega) (by first | exact (xm hs0).symm | exact (kW hs0).symm | exact (kW hs1).symm)),tt ⟨w6,tt ⟨(m + 1),rfl,(?_ : (m + 1) ≤ (c.procs.getD p au).puts.length),(?_ : (c.procs.getD p au).puts.length - (m + 1) < (c.procs.getD p au).puts.length - m)⟩⟩⟩⟩⟩
       · omega
       · omega
     · refine tt ⟨(vF hs0),tt ⟨ix,tt ⟨⟨⟨rfl,oK⟩,oK⟩,⟨(bh (by omega) (by first | exact (xm hs0).symm | exact (kW hs0).symm | exact (kW hs1).symm)),tt ⟨w6,tt ⟨(m + 1),rfl,(?_ : (m + 1) ≤ (c.procs.getD p au).puts.length),(?_ : (c.procs.getD p au).puts.length - (m + 1) < (c.procs.getD p au).puts.length - m)⟩⟩⟩⟩⟩⟩
       · omega
       · omega
   · have hie : i = (c.procs.getD p au).takes.length := by omega
     have hme : m = (c.procs.getD p au).puts.length := by omega
     refine tt ⟨ix,tt ⟨ix,tt ⟨(EK (c.procs.getD p au) (s.procs.getD p a7) (tab (bR c s p) i) (tab (bS c s p) m) hpk (hs.pv p hp) (by rw [hie]; exact o7 hc hs hp) (by rw [aQ]; omega)),tt ⟨?_,(congrArg _ (?_ : (((aJ (c.procs.getD p au) (s.procs.getD p a7) (tab (bR c s p) i) (tab (bS c s p) m)).s).regs) = (((ab c s p).s).regs))),(congrArg _ (?_ : (((aJ (c.procs.getD p au) (s.procs.getD p a7) (tab (bR c s p) i) (tab (bS c s p) m)).s).mems) = (((ab c s p).s).mems))),(congrArg _ (?_ : ((aJ (c.procs.getD p au) (s.procs.getD p a7) (tab (bR c s p) i) (tab (bS c s p) m)).pops) = ((ab c s p).pops))),(congrArg _ (?_ : ((aJ (c.procs.getD p au) (s.procs.getD p a7) (tab (bR c s p) i) (tab (bS c s p) m)).puts) = ((ab c s p).puts))),oK⟩⟩⟩⟩
     all_goals (all_goals (rw [hie,hme]; rfl))
end Go.Proofs.YtgmpoenfoacofaaGreat
