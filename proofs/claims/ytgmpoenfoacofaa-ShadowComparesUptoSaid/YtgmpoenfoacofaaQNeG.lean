/-
  Package network: valid states, starts, what a process does.
-/
import Derived.Test.YtgmpoenfoacofaaQNeE
namespace Go.Proofs.Ytgmpoenfoacofaa
open Go.RowKit
set_option linter.unusedVariables false
set_option linter.unusedSimpArgs false
set_option maxRecDepth 100000
abbrev yY (c : Ci) : Ct := ⟨19,[(.agg [(dL 6 gb ew c.procs),(dL 5 dy bO c.chans)])],true,(.agg [(dL 2 b5 e8 ((aA c).procs)),(dL 1 ax [] ((aA c).chans))])⟩
abbrev fZ (c : Ci) : Lp (Nat) := mB [2,3,12,13,14] 5 (fun (i : Nat) => ⟨[(2,(.ptr 1 0 0 0)),(3,(.ptr 3 0 0 0)),(12,(dL 6 gb ew c.procs)),(13,(i6 (c.procs.length : Int))),(14,(i6 (i : Int)))],[(.var 42 [(dL 6 gb ew c.procs),(dL 5 dy bO c.chans)]),(.var 46 [.nils,.nils]),(.arr 38 1 ax [] (List.replicate c.chans.length ([] : List Int))),(.var 46 [(.own 4),(.own 2)]),(.arr 88 2 b5 e8 (tab (fun i => aP (dP c i)) i))]⟩) (fun (i : Nat) => i ≤ c.procs.length) (fun (i : Nat) => c.procs.length - i)
theorem sN (c : Ci) (hc : kV c) : CC (yY c) := by
 have hnl := hc.nl
 have hcl := hc.cl
 refine ai.vc (V := TT 5 ((((0 : Int) ≤ (c.chans.length : Int)∧(c.chans.length : Int) ≤ (c.chans.length : Int)∧(c.chans.length : Int) ≤ 137438953472)∧(List.replicate c.chans.length ([] : List Int)).length = c.chans.length∧∀ x ∈ (List.replicate c.chans.length ([] : List Int)),fm [.nils] (ax x))∧TT 7 (GO (fZ c) 0 (∀ i,(fZ c).inv i → TT 1 (CD ((i : Int) < (c.procs.length : Int)) (IX (i : Int) c.procs.length∧TT 6 (CC (yJ (c.procs.getD i ew))∧ak [[(LI ((aP (c.procs.getD i ew)).regs)),(dL 1 ax [] ((aP (c.procs.getD i ew)).mems))]] ([(⟨(aP (c.procs.getD i ew)).regs,(aP (c.procs.getD i ew)).mems⟩ : Ps)].map b5)∧((tab (fun i => aP (dP c i)) i).length + ([(⟨(aP (c.procs.getD i ew)).regs,(aP (c.procs.getD i ew)).mems⟩ : Ps)].map b5).length ≤ 137438953472∧(tab (fun i => aP (dP c i)) i).map b5 ++ [(⟨(aP (c.procs.getD i ew)).regs,(aP (c.procs.getD i ew)).mems⟩ : Ps)].map b5 = (tab (fun i => aP (dP c i)) (i + 1)).map b5)∧TT 2 (W6 ((i + 1 : Nat) : Int)∧TT 1 (AG (fZ c) i (i + 1))))) (TT 3 ((tab (fun i => aP (dP c i)) i).map b5 = ((aA c).procs).map b5∧(List.replicate c.chans.length ([] : List Int)).map ax = ((aA c).chans).map ax∧True))))))) (.w 1 [(3,.box 38 1 ax [] (List.replicate c.chans.length ([] : List Int)))] <| .g 2 3 0 88 2 b5 e8 <| .l (fZ c) 0 (fun i => .b 15 (.w 5 [(3,(yJ (c.procs.getD i ew)).O),(4,.box 88 2 b5 e8 [(⟨(aP (c.procs.getD i ew)).regs,(aP (c.procs.getD i ew)).mems⟩ : Ps)]),(5,.box 88 2 b5 e8 (tab (fun i => aP (dP c i)) (i + 1)))] <| .w 6 [(0,.val (i6 ((i + 1 : Nat) : Int)))] <| .e) (.e))) Try.func19 rfl rfl rfl (by kernel_rfl) ?_
 refine tt ⟨⟨by omega,by simp,fun x hx => by rw [List.eq_of_mem_replicate hx]; exact ⟨rfl,oK⟩⟩,tt ⟨rfl,(by omega),?_⟩⟩
 intro i hinv
 have hi := hinv
 refine tt (cd (fun hc15 => ?_) (fun hc15 => ?_))
 · refine ⟨ix,?_⟩
   have hpk := hc.pr i (by omega)
   refine tt ⟨(sH (c.procs.getD i ew) hpk),⟨⟨⟨rfl,rfl,oK⟩,oK⟩,⟨(jP (f := fun i => aP (dP c i)) (by omega)),tt ⟨w6,tt ⟨(i + 1),rfl,(?_ : (i + 1) ≤ c.procs.length),(?_ : c.procs.length - (i + 1) < c.procs.length - i)⟩⟩⟩⟩⟩
   · omega
   · omega
 · refine tt ⟨(congrArg _ (?_ : (tab (fun i => aP (dP c i)) i) = ((aA c).procs))),(congrArg _ (?_ : (List.replicate c.chans.length ([] : List Int)) = ((aA c).chans))),oK⟩
   · rw [show i = c.procs.length by omega]; rfl
   · rfl
abbrev yZ (h : Ch) : Ct := ⟨57,[(.agg [(dS h.name),(i6 h.w),(i6 h.cap),(i6 h.frm),(i6 h.dst)])],false,(i6 h.frm)⟩
theorem ue (h : Ch) : CC (yZ h) := by
 refine ai.vc (V := TT 6 (h.frm = h.frm∧True)) (.e) Try.func57 rfl rfl rfl (by kernel_rfl) ?_
 exact tt ⟨rfl,oK⟩
abbrev uj (c : Ci) (n : Int) : Ct := ⟨56,[(.agg [(dL 6 gb ew c.procs),(dL 5 dy bO c.chans)]),(i6 n),(.fn (.func 57) [] [])],false,(dB (eL (·.frm) c n))⟩
theorem pk (c : Ci) (n : Int) (hc : kV c) : CC (uj c n) := by
 have hnl := hc.nl
 have hcl := hc.cl
 refine ai.vc (V := TT 2 (CS (n ≥ 0) (CS (n < (c.chans.length : Int)) (TT 2 ((True∧(decide (n ≥ 0)) = true)∧TT 6 ((True∧(decide (n < (c.chans.length : Int))) = true)∧TT 4 (IX n c.chans.length∧TT 1 (CC (yZ (c.chans.getD n.toNat bO))∧TT 4 ((((c.chans.getD n.toNat bO).frm) == (-1)) = (eL (·.frm) c n)∧True)))))) (TT 2 ((True∧(decide (n ≥ 0)) = true)∧TT 6 ((True∧(decide (n < (c.chans.length : Int))) = false)∧TT 11 (false = (eL (·.frm) c n)∧True))))) (TT 2 ((True∧(decide (n ≥ 0)) = false)∧TT 18 (false = (eL (·.frm) c n)∧True))))) (.s 1 (n ≥ 0) (.s 1 (n < (c.chans.length : Int)) (.w 1 [(2,.val (dB true)),(9,.val (dB true)),(16,(yZ (c.chans.getD n.toNat bO)).O)] <| .e) (.w 1 [(2,.val (dB true)),(9,.val (dB false))] <| .e)) (.w 1 [(2,.val (dB false))] <| .e)) Try.func56 rfl rfl rfl (by kernel_rfl) ?_
 refine tt ⟨fun hs0 => ?_,fun hs0 => ?_⟩
 · refine ⟨fun hs1 => ?_,fun hs1 => ?_⟩
   · refine tt ⟨(vT hs0),tt ⟨(vT hs1),tt ⟨ix,tt ⟨(ue (c.chans.getD n.toNat bO)),tt ⟨?_,oK⟩⟩⟩⟩⟩
     first | exact (kX (by omega)).symm | exact (kY (by omega)).symm | exact (fV (by omega) (by omega)).symm | (rw [fV (by omega) (by omega)]; simp)
   · refine tt ⟨(vT hs0),tt ⟨(vF hs1),tt ⟨?_,oK⟩⟩⟩
     first | exact (kX (by omega)).symm | exact (kY (by omega)).symm | exact (fV (by omega) (by omega)).symm | (rw [fV (by omega) (by omega)]; simp)
 · refine tt ⟨(vF hs0),tt ⟨?_,oK⟩⟩
   first | exact (kX (by omega)).symm | exact (kY (by omega)).symm | exact (fV (by omega) (by omega)).symm | (rw [fV (by omega) (by omega)]; simp)
end Go.Proofs.Ytgmpoenfoacofaa
