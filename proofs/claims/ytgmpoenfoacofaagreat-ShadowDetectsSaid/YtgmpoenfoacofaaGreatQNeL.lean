/-
  The reference of package network: states, words, single processes.
-/
import Derived.Test.YtgmpoenfoacofaaGreatQNeJ
import Derived.Test.YtgmpoenfoacofaaGreatQPrD
namespace Go.Proofs.YtgmpoenfoacofaaGreat
open Go.RowKit
set_option linter.unusedVariables false
set_option linter.unusedSimpArgs false
abbrev wt (c : Ci) : List D := [(dL 6 c9 aB c.procs),(dL 5 d7 be c.chans)]
abbrev zb (s : Ns) : List D := [(dL 2 bA b4 s.procs),(dL 1 ac [] s.chans)]
set_option maxRecDepth 100000
abbrev Ee (l : List Int) (w : Int) : Ct := ⟨46,[(LI l),(i6 w)],false,(dB (cy l w))⟩
abbrev jd (l : List Int) (w : Int) : Lp (Nat) := jO [0,1,5] 0 (fun (i : Nat) => ⟨[(0,(LI l)),(1,(i6 w)),(5,(i6 (i : Int)))],[]⟩) (fun (i : Nat) => i ≤ l.length∧∀ z,z < i → cj (l.getD z 0) w = true) (fun (i : Nat) => l.length - i)
theorem je (l : List Int) (w : Int) (hl : l.length ≤ 9223372036854775807) : CC (Ee l w) := by
 refine af.vc (V := TT 2 (GO (jd l w) 0 (∀ i,(jd l w).inv i → TT 4 (CD ((i : Int) < (l.length : Int)) (CS ((l.getD i 0) < 0) (TT 2 (IX (i : Int) l.length∧TT 2 ((True∧(decide ((l.getD i 0) < 0)) = true)∧TT 3 (false = (cy l w)∧True)))) (TT 2 (IX (i : Int) l.length∧TT 2 ((True∧(decide ((l.getD i 0) < 0)) = false)∧TT 2 (IX (i : Int) l.length∧TT 2 (CC (F8 w)∧TT 2 (CD ((l.getD i 0) > (aj w)) (TT 2 (false = (cy l w)∧True)) (TT 1 (W6 ((i + 1 : Nat) : Int)∧TT 1 (AG (jd l w) i (i + 1))))))))))) (TT 2 (true = (cy l w)∧True)))))) (.l (jd l w) 0 (fun i => .b 9 (.s 4 ((l.getD i 0) < 0) (.w 4 [(5,.val (dB true))] <| .e) (.w 4 [(5,.val (dB false)),(11,(F8 w).O)] <| .b 25 (.e) (.w 3 [(1,.val (i6 ((i + 1 : Nat) : Int)))] <| .e))) (.e))) Tryz.func46 rfl rfl rfl (by kernel_rfl) ?_
 refine tt ⟨rfl,⟨by omega,fun z hz => by omega⟩,?_⟩
 intro i hinv
 obtain ⟨hi,h3⟩ := hinv
 refine tt (cd (fun hc9 => ?_) (fun hc9 => ?_))
 · refine ⟨fun hs0 => ?_,fun hs0 => ?_⟩
   · refine tt ⟨ix,tt ⟨(vT hs0),tt ⟨?_,oK⟩⟩⟩
     first | exact (kO (i := i) (by omega) (u1 hs0)).symm | exact (kO (i := i) (by omega) (u2 hc25)).symm | exact (rT (fun z hz => h3 z (by omega))).symm
   · refine tt ⟨ix,tt ⟨(vF hs0),tt ⟨ix,tt ⟨(rU w),tt (cd (fun hc25 => ?_) (fun hc25 => ?_))⟩⟩⟩⟩
     · refine tt ⟨?_,oK⟩
       first | exact (kO (i := i) (by omega) (u1 hs0)).symm | exact (kO (i := i) (by omega) (u2 hc25)).symm | exact (rT (fun z hz => h3 z (by omega))).symm
     · refine tt ⟨w6,tt ⟨(i + 1),rfl,?_,(?_ : l.length - (i + 1) < l.length - i)⟩⟩
       · exact ⟨by omega,b6 h3 (Ed hs0 hc25)⟩
       · omega
 · refine tt ⟨?_,oK⟩
   first | exact (kO (i := i) (by omega) (u1 hs0)).symm | exact (kO (i := i) (by omega) (u2 hc25)).symm | exact (rT (fun z hz => h3 z (by omega))).symm
abbrev Hn (c : Ci) (s : Ns) : Ct := ⟨24,[(.agg (wt c)),(.agg (zb s))],false,(dB (bO c s))⟩
abbrev jf (c : Ci) (s : Ns) : Lp (Nat) := jO [2,3,5] 2 (fun (i : Nat) => ⟨[(2,(.ptr 0 0 0 0)),(3,(.ptr 1 0 0 0)),(5,(i6 (i : Int)))],[(.var 38 (wt c)),(.var 42 (zb s))]⟩) (fun (i : Nat) => i ≤ c.procs.length∧∀ z,z < i → bC (ba c z) (BX s z) = true) (fun (i : Nat) => c.procs.length - i)
abbrev eN (c : Ci) (s : Ns) : Lp (Nat) := jO [2,3,6] 2 (fun (n : Nat) => ⟨[(2,(.ptr 0 0 0 0)),(3,(.ptr 1 0 0 0)),(6,(i6 (n : Int)))],[(.var 38 (wt c)),(.var 42 (zb s))]⟩) (fun (n : Nat) => n ≤ c.chans.length∧∀ z,z < n → gk c s z = true) (fun (n : Nat) => c.chans.length - n)
theorem rV (c : Ci) (s : Ns) (hc : b5 c) (hsm : l5 s 9223372036854775807) : CC (Hn c s) := by
 have hnl := hc.nl
 have hcl := hc.cl
 refine af.vc (V := TT 3 (CS ((s.procs.length : Int) = (c.procs.length : Int)) (TT 7 ((True∧(!decide ((s.procs.length : Int) = (c.procs.length : Int))) = false)∧TT 8 (CN ((s.chans.length : Int) = (c.chans.length : Int)) (TT 2 (false = (bO c s)∧True)) (TT 1 (GO (jf c s) 0 (∀ i,(jf c s).inv i → TT 5 (CD ((i : Int) < (c.procs.length : Int)) (TT 3 (IX (i : Int) c.procs.length∧TT 4 (IX (i : Int) s.procs.length∧TT 1 (CC (IH (c.procs.getD i aB) (s.procs.getD i b4))∧TT 1 (CB (!(bC (c.procs.getD i aB) (s.procs.getD i b4))) (TT 2 (false = (bO c s)∧True)) (TT 1 (W6 ((i + 1 : Nat) : Int)∧TT 1 (AG (jf c s) i (i + 1))))))))) (TT 1 (GO (eN c s) 0 (∀ n,(eN c s).inv n → TT 5 (CD ((n : Int) < (c.chans.length : Int)) (TT 3 (IX (n : Int) c.chans.length∧TT 3 (CS ((cy (s.chans.getD n []) ((c.chans.getD n be).w)) = true) (CS (((c.chans.getD n be).frm) ≥ 0) (CS (((c.chans.getD n be).dst) ≥ 0) (TT 3 (IX (n : Int) s.chans.length∧TT 3 (CC (Ee (s.chans.getD n []) ((c.chans.getD n be).w))∧TT 1 ((True∧(!(cy (s.chans.getD n []) ((c.chans.getD n be).w))) = false)∧TT 3 ((True∧(decide (((c.chans.getD n be).frm) ≥ 0)) = true)∧TT 4 ((True∧(decide (((c.chans.getD n be).dst) ≥ 0)) = true)∧TT 3 (IX (n : Int) s.chans.length∧TT 7 (CD ((((s.chans.getD n []).length : Nat) : Int) > ((c.chans.getD n be).cap)) (TT 2 (false = (bO c s)∧True)) (TT 1 (W6 ((n + 1 : Nat) : Int)∧TT 1 (AG (eN c s) n (n + 1)))))))))))) (TT 3 (IX (n : Int) s.chans.length∧TT 3 (CC (Ee (s.chans.getD n []) ((c.chans.getD n be).w))∧TT 1 ((True∧(!(cy (s.chans.getD n []) ((c.chans.getD n be).w))) = false)∧TT 3 ((True∧(decide (((c.chans.getD n be).frm) ≥ 0)) = true)∧TT 4 ((True∧(decide (((c.chans.getD n be).dst) ≥ 0)) = false)∧TT 3 (W6 ((n + 1 : Nat) : Int)∧TT 1 (AG (eN c s) n (n + 1)))))))))) (TT 3 (IX (n : Int) s.chans.length∧TT 3 (CC (Ee (s.chans.getD n []) ((c.chans.getD n be).w))∧TT 1 ((True∧(!(cy (s.chans.getD n []) ((c.chans.getD n be).w))) = false)∧TT 3 ((True∧(decide (((c.chans.getD n be).frm) ≥ 0)) = false)∧TT 5 (W6 ((n + 1 : Nat) : Int)∧TT 1 (AG (eN c s) n (n + 1))))))))) (TT 3 (IX (n : Int) s.chans.length∧TT 3 (CC (Ee (s.chans.getD n []) ((c.chans.getD n be).w))∧TT 1 ((True∧(!(cy (s.chans.getD n []) ((c.chans.getD n be).w))) = true)∧TT 3 (false = (bO c s)∧True)))))))) (TT 2 (true = (bO c s)∧True))))))))))))) (TT 7 ((True∧(!decide ((s.procs.length : Int) = (c.procs.length : Int))) = true)∧TT 10 (false = (bO c s)∧True))))) (.s 1 ((s.procs.length : Int) = (c.procs.length : Int)) (.w 1 [(7,.val (dB false))] <| .b 23 (.e) (.l (jf c s) 0 (fun i => .b 28 (.w 6 [(10,(IH (c.procs.getD i aB) (s.procs.getD i b4)).O)] <| .b 42 (.e) (.w 5 [(1,.val (i6 ((i + 1 : Nat) : Int)))] <| .e)) (.l (eN c s) 0 (fun n => .b 47 (.s 12 ((cy (s.chans.getD n []) ((c.chans.getD n be).w)) = true) (.s 12 (((c.chans.getD n be).frm) ≥ 0) (.s 12 (((c.chans.getD n be).dst) ≥ 0) (.w 12 [(7,(Ee (s.chans.getD n []) ((c.chans.getD n be).w)).O),(9,.val (dB false)),(13,.val (dB true)),(18,.val (dB true))] <| .b 84 (.e) (.w 10 [(1,.val (i6 ((n + 1 : Nat) : Int)))] <| .e)) (.w 12 [(7,(Ee (s.chans.getD n []) ((c.chans.getD n be).w)).O),(9,.val (dB false)),(13,.val (dB true)),(18,.val (dB false))] <| .w 10 [(1,.val (i6 ((n + 1 : Nat) : Int)))] <| .e)) (.w 12 [(7,(Ee (s.chans.getD n []) ((c.chans.getD n be).w)).O),(9,.val (dB false)),(13,.val (dB false))] <| .w 10 [(1,.val (i6 ((n + 1 : Nat) : Int)))] <| .e)) (.w 12 [(7,(Ee (s.chans.getD n []) ((c.chans.getD n be).w)).O),(9,.val (dB true))] <| .e)) (.e)))))) (.w 1 [(7,.val (dB true))] <| .e)) Tryz.func24 rfl rfl rfl (by kernel_rfl) ?_
 refine tt ⟨fun hs0 => ?_,fun hs0 => ?_⟩
 · refine tt ⟨(nF hs0),tt (cn (fun hc23 => ?_) (fun hc23 => ?_))⟩
   · refine tt ⟨?_,oK⟩
     first | exact (oO (by omega)).symm | exact (oP (by omega)).symm | exact (oQ (i := i) (by omega) (by simpa using hc42)).symm | exact (fl (n := n) (by omega) (ir (by assumption))).symm | exact (fl (n := n) (by omega) (it (by show 0 ≤ (c.chans.getD n be).frm; omega) (by show 0 ≤ (c.chans.getD n be).dst; omega) (by show ¬((s.chans.getD n []).length : Int) ≤ (c.chans.getD n be).cap; omega))).symm | exact (oS (by omega) (by omega) (fun z hz => h3 z (by omega)) (fun z hz => h4 z (by omega))).symm
   · refine tt ⟨rfl,⟨by omega,fun z hz => by omega⟩,?_⟩
     intro i hinv
     obtain ⟨hi,h3⟩ := hinv
     refine tt (cd (fun hc28 => ?_) (fun hc28 => ?_))
     · have hpk := hc.pr i (by omega)
       refine tt ⟨ix,tt ⟨ix,tt ⟨(Aq (c.procs.getD i aB) (s.procs.getD i b4) hpk),tt ⟨fun hc42 => ?_,fun hc42 => ?_⟩⟩⟩⟩
       · refine tt ⟨?_,oK⟩
         first | exact (oO (by omega)).symm | exact (oP (by omega)).symm | exact (oQ (i := i) (by omega) (by simpa using hc42)).symm | exact (fl (n := n) (by omega) (ir (by assumption))).symm | exact (fl (n := n) (by omega) (it (by show 0 ≤ (c.chans.getD n be).frm; omega) (by show 0 ≤ (c.chans.getD n be).dst; omega) (by show ¬((s.chans.getD n []).length : Int) ≤ (c.chans.getD n be).cap; omega))).symm | exact (oS (by omega) (by omega) (fun z hz => h3 z (by omega)) (fun z hz => h4 z (by omega))).symm
       · refine tt ⟨w6,tt ⟨(i + 1),rfl,?_,(?_ : c.procs.length - (i + 1) < c.procs.length - i)⟩⟩
         · exact ⟨by omega,b6 h3 (by simpa using hc42)⟩
         · omega
     · refine tt ⟨rfl,⟨by omega,fun z hz => by omega⟩,?_⟩
       intro n hinv
       obtain ⟨hn,h4⟩ := hinv
       refine tt (cd (fun hc47 => ?_) (fun hc47 => ?_))
       · refine tt ⟨ix,tt ?_⟩
         have hlw : (s.chans.getD n []).length ≤ 9223372036854775807 := hsm n
         refine ⟨fun hs1 => ?_,fun hs1 => ?_⟩
         · refine ⟨fun hs2 => ?_,fun hs2 => ?_⟩
           · refine ⟨fun hs3 => ?_,fun hs3 => ?_⟩
             · refine tt ⟨ix,tt ⟨(je (s.chans.getD n []) ((c.chans.getD n be).w) hlw),tt ⟨(mF hs1),tt ⟨(vT hs2),tt ⟨(vT hs3),tt ⟨ix,tt (cd (fun hc84 => ?_) (fun hc84 => ?_))⟩⟩⟩⟩⟩⟩
               · refine tt ⟨?_,oK⟩
                 first | exact (oO (by omega)).symm | exact (oP (by omega)).symm | exact (oQ (i := i) (by omega) (by simpa using hc42)).symm | exact (fl (n := n) (by omega) (ir (by assumption))).symm | exact (fl (n := n) (by omega) (it (by show 0 ≤ (c.chans.getD n be).frm; omega) (by show 0 ≤ (c.chans.getD n be).dst; omega) (by show ¬((s.chans.getD n []).length : Int) ≤ (c.chans.getD n be).cap; omega))).symm | exact (oS (by omega) (by omega) (fun z hz => h3 z (by omega)) (fun z hz => h4 z (by omega))).symm
               · refine tt ⟨w6,tt ⟨(n + 1),rfl,?_,(?_ : c.chans.length - (n + 1) < c.chans.length - n)⟩⟩
                 · refine ⟨by omega,b6 h4 ?_⟩
                   first | exact xA (by assumption) (by show ¬0 ≤ (c.chans.getD n be).frm; omega) | exact xB (by assumption) (by show ¬0 ≤ (c.chans.getD n be).dst; omega) | exact xC (by assumption) (by show ((s.chans.getD n []).length : Int) ≤ (c.chans.getD n be).cap; omega)
                 · omega
             · refine tt ⟨ix,tt ⟨(je (s.chans.getD n []) ((c.chans.getD n be).w) hlw),tt ⟨(mF hs1),tt ⟨(vT hs2),tt ⟨(vF hs3),tt ⟨w6,tt ⟨(n + 1),rfl,?_,(?_ : c.chans.length - (n + 1) < c.chans.length - n)⟩⟩⟩⟩⟩⟩⟩
               · refine ⟨by omega,b6 h4 ?_⟩
                 first | exact xA (by assumption) (by show ¬0 ≤ (c.chans.getD n be).frm; omega) | exact xB (by assumption) (by show ¬0 ≤ (c.chans.getD n be).dst; omega) | exact xC (by assumption) (by show ((s.chans.getD n []).length : Int) ≤ (c.chans.getD n be).cap; omega)
               · omega
           · refine tt ⟨ix,tt ⟨(je (s.chans.getD n []) ((c.chans.getD n be).w) hlw),tt ⟨(mF hs1),tt ⟨(vF hs2),tt ⟨w6,tt ⟨(n + 1),rfl,?_,(?_ : c.chans.length - (n + 1) < c.chans.length - n)⟩⟩⟩⟩⟩⟩
             · refine ⟨by omega,b6 h4 ?_⟩
               first | exact xA (by assumption) (by show ¬0 ≤ (c.chans.getD n be).frm; omega) | exact xB (by assumption) (by show ¬0 ≤ (c.chans.getD n be).dst; omega) | exact xC (by assumption) (by show ((s.chans.getD n []).length : Int) ≤ (c.chans.getD n be).cap; omega)
             · omega
         · refine tt ⟨ix,tt ⟨(je (s.chans.getD n []) ((c.chans.getD n be).w) hlw),tt ⟨(mT hs1),tt ⟨?_,oK⟩⟩⟩⟩
           first | exact (oO (by omega)).symm | exact (oP (by omega)).symm | exact (oQ (i := i) (by omega) (by simpa using hc42)).symm | exact (fl (n := n) (by omega) (ir (by assumption))).symm | exact (fl (n := n) (by omega) (it (by show 0 ≤ (c.chans.getD n be).frm; omega) (by show 0 ≤ (c.chans.getD n be).dst; omega) (by show ¬((s.chans.getD n []).length : Int) ≤ (c.chans.getD n be).cap; omega))).symm | exact (oS (by omega) (by omega) (fun z hz => h3 z (by omega)) (fun z hz => h4 z (by omega))).symm
       · refine tt ⟨?_,oK⟩
         first | exact (oO (by omega)).symm | exact (oP (by omega)).symm | exact (oQ (i := i) (by omega) (by simpa using hc42)).symm | exact (fl (n := n) (by omega) (ir (by assumption))).symm | exact (fl (n := n) (by omega) (it (by show 0 ≤ (c.chans.getD n be).frm; omega) (by show 0 ≤ (c.chans.getD n be).dst; omega) (by show ¬((s.chans.getD n []).length : Int) ≤ (c.chans.getD n be).cap; omega))).symm | exact (oS (by omega) (by omega) (fun z hz => h3 z (by omega)) (fun z hz => h4 z (by omega))).symm
 · refine tt ⟨(nT hs0),tt ⟨?_,oK⟩⟩
   first | exact (oO (by omega)).symm | exact (oP (by omega)).symm | exact (oQ (i := i) (by omega) (by simpa using hc42)).symm | exact (fl (n := n) (by omega) (ir (by assumption))).symm | exact (fl (n := n) (by omega) (it (by show 0 ≤ (c.chans.getD n be).frm; omega) (by show 0 ≤ (c.chans.getD n be).dst; omega) (by show ¬((s.chans.getD n []).length : Int) ≤ (c.chans.getD n be).cap; omega))).symm | exact (oS (by omega) (by omega) (fun z hz => h3 z (by omega)) (fun z hz => h4 z (by omega))).symm
abbrev IJ (c : Ci) : Ct := ⟨52,[(.agg (wt c))],true,(.agg [(dL 2 bA b4 ((aC c).procs)),(dL 1 ac [] ((aC c).chans))])⟩
abbrev kU (c : Ci) : Lp (Nat) := jO [1,2,3,4] 5 (fun (i : Nat) => ⟨[(1,(.ptr 0 0 0 0)),(2,(.ptr 1 0 0 0)),(3,(.ptr 3 0 0 0)),(4,(i6 (i : Int)))],[(.var 38 (wt c)),(.var 42 [.nils,.nils]),(.arr 28 1 ac [] (List.replicate c.chans.length ([] : List Int))),(.var 42 [(.own 4),(.own 2)]),(.arr 112 2 bA b4 (tab (fun i => aJ (ba c i)) i))]⟩) (fun (i : Nat) => i ≤ c.procs.length) (fun (i : Nat) => c.procs.length - i)
theorem Au (c : Ci) (hc : b5 c) : CC (IJ c) := by
 have hnl := hc.nl
 have hcl := hc.cl
 refine af.vc (V := TT 5 ((((0 : Int) ≤ (c.chans.length : Int)∧(c.chans.length : Int) ≤ (c.chans.length : Int)∧(c.chans.length : Int) ≤ 137438953472)∧(List.replicate c.chans.length ([] : List Int)).length = c.chans.length∧∀ x ∈ (List.replicate c.chans.length ([] : List Int)),dP [.nils] (ac x))∧TT 4 (GO (kU c) 0 (∀ i,(kU c).inv i → TT 5 (CD ((i : Int) < (c.procs.length : Int)) (TT 5 (IX (i : Int) c.procs.length∧TT 1 (CC (II (c.procs.getD i aB))∧an [[(LI ((aJ (c.procs.getD i aB)).regs)),(dL 1 ac [] ((aJ (c.procs.getD i aB)).mems))]] ([(⟨(aJ (c.procs.getD i aB)).regs,(aJ (c.procs.getD i aB)).mems⟩ : Ps)].map bA)∧((tab (fun i => aJ (ba c i)) i).length + ([(⟨(aJ (c.procs.getD i aB)).regs,(aJ (c.procs.getD i aB)).mems⟩ : Ps)].map bA).length ≤ 137438953472∧(tab (fun i => aJ (ba c i)) i).map bA ++ [(⟨(aJ (c.procs.getD i aB)).regs,(aJ (c.procs.getD i aB)).mems⟩ : Ps)].map bA = (tab (fun i => aJ (ba c i)) (i + 1)).map bA)∧TT 3 (W6 ((i + 1 : Nat) : Int)∧TT 1 (AG (kU c) i (i + 1)))))) (TT 3 ((tab (fun i => aJ (ba c i)) i).map bA = ((aC c).procs).map bA∧(List.replicate c.chans.length ([] : List Int)).map ac = ((aC c).chans).map ac∧True))))))) (.w 1 [(3,.box 28 1 ac [] (List.replicate c.chans.length ([] : List Int)))] <| .g 2 3 0 112 2 bA b4 <| .l (kU c) 0 (fun i => .b 14 (.w 5 [(7,(II (c.procs.getD i aB)).O),(8,.box 112 2 bA b4 [(⟨(aJ (c.procs.getD i aB)).regs,(aJ (c.procs.getD i aB)).mems⟩ : Ps)]),(9,.box 112 2 bA b4 (tab (fun i => aJ (ba c i)) (i + 1)))] <| .w 4 [(1,.val (i6 ((i + 1 : Nat) : Int)))] <| .e) (.e))) Tryz.func52 rfl rfl rfl (by kernel_rfl) ?_
 refine tt ⟨⟨by omega,by simp,fun x hx => by rw [List.eq_of_mem_replicate hx]; exact ⟨rfl,oK⟩⟩,tt ⟨rfl,(by omega),?_⟩⟩
 intro i hinv
 have hi := hinv
 refine tt (cd (fun hc14 => ?_) (fun hc14 => ?_))
 · have hpk := hc.pr i (by omega)
   refine tt ⟨ix,tt ⟨(Ar (c.procs.getD i aB) hpk),⟨⟨⟨rfl,rfl,oK⟩,oK⟩,⟨(gN (f := fun i => aJ (ba c i)) (by omega)),tt ⟨w6,tt ⟨(i + 1),rfl,(?_ : (i + 1) ≤ c.procs.length),(?_ : c.procs.length - (i + 1) < c.procs.length - i)⟩⟩⟩⟩⟩⟩
   · omega
   · omega
 · refine tt ⟨(congrArg _ (?_ : (tab (fun i => aJ (ba c i)) i) = ((aC c).procs))),(congrArg _ (?_ : (List.replicate c.chans.length ([] : List Int)) = ((aC c).chans))),oK⟩
   · rw [show i = c.procs.length by omega]; rfl
   · rfl
abbrev IK (s : Ns) (n : Int) (l : List Int) : Ct := ⟨56,[(.agg (zb s)),(i6 n),(LI l)],true,(.agg [(dL 2 bA b4 ((ft s n.toNat l).procs)),(dL 1 ac [] ((ft s n.toNat l).chans))])⟩
theorem Ef (s : Ns) (n : Int) (l : List Int) (h1 : 0 ≤ n) (h2 : n < s.chans.length) (h3 : s.chans.length ≤ 1000000) : CC (IK s n l) := by
 refine af.vc (V := TT 4 (an [] (([] : List (List Int)).map ac)∧TT 2 ((([] : List (List Int)).length + (s.chans.map ac).length ≤ 137438953472∧([] : List (List Int)).map ac ++ s.chans.map ac = s.chans.map ac)∧TT 7 (IX n s.chans.length∧(n.toNat < s.chans.length∧(s.chans.map ac).set n.toNat ((ac (s.chans.getD n.toNat [])).take 0 ++ [(.sl 1 (ah .i64) 0 l)] ++ (ac (s.chans.getD n.toNat [])).drop (0 + 1)) = (s.chans.set n.toNat l).map ac)∧TT 3 (s.procs.map bA = ((ft s n.toNat l).procs).map bA∧(s.chans.set n.toNat l).map ac = ((ft s n.toNat l).chans).map ac∧True))))) (.w 1 [(2,.app false 28 1 ac [] ([] : List (List Int))),(5,.app false 28 1 ac [] s.chans)] <| .w 2 [(5,.box 28 1 ac [] (s.chans.set n.toNat l))] <| .e) Tryz.func56 rfl rfl rfl (by kernel_rfl) ?_
 refine tt ⟨oK,tt ⟨⟨by simp only [List.length_map,List.length_cons,List.length_nil,List.length_append,List.length_drop,List.length_take]; first | omega | (simp; first | done | omega),by simp only [List.map_append,List.map_nil,List.append_nil,List.nil_append]⟩,tt ⟨ix,⟨⟨om,by simp only [List.map_set]; rfl⟩,tt ⟨(congrArg _ (?_ : s.procs = ((ft s n.toNat l).procs))),(congrArg _ (?_ : (s.chans.set n.toNat l) = ((ft s n.toNat l).chans))),oK⟩⟩⟩⟩⟩
 all_goals (rfl)
end Go.Proofs.YtgmpoenfoacofaaGreat
