/-
  The reference of package network: states, words, single processes.
-/
import Derived.Test.YtifoecfajmnjjaaGreatQNeJ
import Derived.Test.YtifoecfajmnjjaaGreatQNeK
import Derived.Test.YtifoecfajmnjjaaGreatQPrD
namespace Go.Proofs.YtifoecfajmnjjaaGreat
open Go.RowKit
set_option linter.unusedVariables false
set_option linter.unusedSimpArgs false
abbrev pk (s : Ns) : List D := [(dL 2 bc bg s.procs),(dL 1 ac [] s.chans)]
abbrev mR (c : Ci) : List D := [(dL 6 eG ao c.procs),(dL 5 iv a9 c.chans)]
set_option maxRecDepth 100000
abbrev Fm (l : List Int) (w : Int) : Ct := ⟨55,[(LI l),(i6 w)],false,(dB (b9 l w))⟩
abbrev j9 (l : List Int) (w : Int) : Lp (Nat) := ga [0,1,5] 0 (fun (i : Nat) => ⟨[(0,(LI l)),(1,(i6 w)),(5,(i6 (i : Int)))],[]⟩) (fun (i : Nat) => i ≤ l.length∧∀ z,z < i → cf (l.getD z 0) w = true) (fun (i : Nat) => l.length - i)
theorem ka (l : List Int) (w : Int) (hl : l.length ≤ 9223372036854775807) : CC (Fm l w) := by
 refine ai.vc (V := TT 2 (GO (j9 l w) 0 (∀ i,(j9 l w).inv i → TT 4 (CD ((i : Int) < (l.length : Int)) (CS ((l.getD i 0) < 0) (TT 2 (IX (i : Int) l.length∧TT 2 ((True∧(decide ((l.getD i 0) < 0)) = true)∧TT 3 (false = (b9 l w)∧True)))) (TT 2 (IX (i : Int) l.length∧TT 2 ((True∧(decide ((l.getD i 0) < 0)) = false)∧TT 2 (IX (i : Int) l.length∧TT 2 (CC (y5 w)∧TT 2 (CD ((l.getD i 0) > (ah w)) (TT 2 (false = (b9 l w)∧True)) (TT 1 (W6 ((i + 1 : Nat) : Int)∧TT 1 (AG (j9 l w) i (i + 1))))))))))) (TT 2 (true = (b9 l w)∧True)))))) (.l (j9 l w) 0 (fun i => .b 9 (.s 4 ((l.getD i 0) < 0) (.w 4 [(5,.val (dB true))] <| .e) (.w 4 [(5,.val (dB false)),(11,(y5 w).O)] <| .b 25 (.e) (.w 3 [(1,.val (i6 ((i + 1 : Nat) : Int)))] <| .e))) (.e))) Tryz.func55 rfl rfl rfl (by kernel_rfl) ?_
 refine tt ⟨rfl,⟨by omega,fun z hz => by omega⟩,?_⟩
 intro i hinv
 obtain ⟨hi,h3⟩ := hinv
 refine tt (cd (fun hc9 => ?_) (fun hc9 => ?_))
 · refine ⟨fun hs0 => ?_,fun hs0 => ?_⟩
   · refine tt ⟨ix,tt ⟨(vT hs0),tt ⟨?_,oK⟩⟩⟩
     first | exact (mb (i := i) (by omega) (vL hs0)).symm | exact (mb (i := i) (by omega) (vM hc25)).symm | exact (sL (fun z hz => h3 z (by omega))).symm
   · refine tt ⟨ix,tt ⟨(vF hs0),tt ⟨ix,tt ⟨(ir w),tt (cd (fun hc25 => ?_) (fun hc25 => ?_))⟩⟩⟩⟩
     · refine tt ⟨?_,oK⟩
       first | exact (mb (i := i) (by omega) (vL hs0)).symm | exact (mb (i := i) (by omega) (vM hc25)).symm | exact (sL (fun z hz => h3 z (by omega))).symm
     · refine tt ⟨w6,tt ⟨(i + 1),rfl,?_,(?_ : l.length - (i + 1) < l.length - i)⟩⟩
       · exact ⟨by omega,bU h3 (E9 hs0 hc25)⟩
       · omega
 · refine tt ⟨?_,oK⟩
   first | exact (mb (i := i) (by omega) (vL hs0)).symm | exact (mb (i := i) (by omega) (vM hc25)).symm | exact (sL (fun z hz => h3 z (by omega))).symm
abbrev za (c : Ci) (s : Ns) : Ct := ⟨20,[(.agg (mR c)),(.agg (pk s))],false,(dB (aZ c s))⟩
abbrev kb (c : Ci) (s : Ns) : Lp (Nat) := ga [2,3,5] 2 (fun (i : Nat) => ⟨[(2,(.ptr 0 0 0 0)),(3,(.ptr 1 0 0 0)),(5,(i6 (i : Int)))],[(.var 31 (mR c)),(.var 36 (pk s))]⟩) (fun (i : Nat) => i ≤ c.procs.length∧∀ z,z < i → bp (bC c z) (vp s z) = true) (fun (i : Nat) => c.procs.length - i)
abbrev fI (c : Ci) (s : Ns) : Lp (Nat) := ga [2,3,6] 2 (fun (n : Nat) => ⟨[(2,(.ptr 0 0 0 0)),(3,(.ptr 1 0 0 0)),(6,(i6 (n : Int)))],[(.var 31 (mR c)),(.var 36 (pk s))]⟩) (fun (n : Nat) => n ≤ c.chans.length∧∀ z,z < n → gu c s z = true) (fun (n : Nat) => c.chans.length - n)
theorem eK (c : Ci) (s : Ns) (hc : bM c) (hsm : i7 s 9223372036854775807) : CC (za c s) := by
 have hnl := hc.nl
 have hcl := hc.cl
 refine ai.vc (V := TT 3 (CS ((s.procs.length : Int) = (c.procs.length : Int)) (TT 7 ((True∧(!decide ((s.procs.length : Int) = (c.procs.length : Int))) = false)∧TT 8 (CN ((s.chans.length : Int) = (c.chans.length : Int)) (TT 2 (false = (aZ c s)∧True)) (TT 1 (GO (kb c s) 0 (∀ i,(kb c s).inv i → TT 5 (CD ((i : Int) < (c.procs.length : Int)) (TT 3 (IX (i : Int) c.procs.length∧TT 4 (IX (i : Int) s.procs.length∧TT 1 (CC (Ju (c.procs.getD i ao) (s.procs.getD i bg))∧TT 1 (CB (!(bp (c.procs.getD i ao) (s.procs.getD i bg))) (TT 2 (false = (aZ c s)∧True)) (TT 1 (W6 ((i + 1 : Nat) : Int)∧TT 1 (AG (kb c s) i (i + 1))))))))) (TT 1 (GO (fI c s) 0 (∀ n,(fI c s).inv n → TT 5 (CD ((n : Int) < (c.chans.length : Int)) (TT 3 (IX (n : Int) c.chans.length∧TT 3 (CS ((b9 (s.chans.getD n []) ((c.chans.getD n a9).w)) = true) (CS (((c.chans.getD n a9).frm) ≥ 0) (CS (((c.chans.getD n a9).dst) ≥ 0) (TT 3 (IX (n : Int) s.chans.length∧TT 3 (CC (Fm (s.chans.getD n []) ((c.chans.getD n a9).w))∧TT 1 ((True∧(!(b9 (s.chans.getD n []) ((c.chans.getD n a9).w))) = false)∧TT 3 ((True∧(decide (((c.chans.getD n a9).frm) ≥ 0)) = true)∧TT 4 ((True∧(decide (((c.chans.getD n a9).dst) ≥ 0)) = true)∧TT 3 (IX (n : Int) s.chans.length∧TT 7 (CD ((((s.chans.getD n []).length : Nat) : Int) > ((c.chans.getD n a9).cap)) (TT 2 (false = (aZ c s)∧True)) (TT 1 (W6 ((n + 1 : Nat) : Int)∧TT 1 (AG (fI c s) n (n + 1)))))))))))) (TT 3 (IX (n : Int) s.chans.length∧TT 3 (CC (Fm (s.chans.getD n []) ((c.chans.getD n a9).w))∧TT 1 ((True∧(!(b9 (s.chans.getD n []) ((c.chans.getD n a9).w))) = false)∧TT 3 ((True∧(decide (((c.chans.getD n a9).frm) ≥ 0)) = true)∧TT 4 ((True∧(decide (((c.chans.getD n a9).dst) ≥ 0)) = false)∧TT 3 (W6 ((n + 1 : Nat) : Int)∧TT 1 (AG (fI c s) n (n + 1)))))))))) (TT 3 (IX (n : Int) s.chans.length∧TT 3 (CC (Fm (s.chans.getD n []) ((c.chans.getD n a9).w))∧TT 1 ((True∧(!(b9 (s.chans.getD n []) ((c.chans.getD n a9).w))) = false)∧TT 3 ((True∧(decide (((c.chans.getD n a9).frm) ≥ 0)) = false)∧TT 5 (W6 ((n + 1 : Nat) : Int)∧TT 1 (AG (fI c s) n (n + 1))))))))) (TT 3 (IX (n : Int) s.chans.length∧TT 3 (CC (Fm (s.chans.getD n []) ((c.chans.getD n a9).w))∧TT 1 ((True∧(!(b9 (s.chans.getD n []) ((c.chans.getD n a9).w))) = true)∧TT 3 (false = (aZ c s)∧True)))))))) (TT 2 (true = (aZ c s)∧True))))))))))))) (TT 7 ((True∧(!decide ((s.procs.length : Int) = (c.procs.length : Int))) = true)∧TT 10 (false = (aZ c s)∧True))))) (.s 1 ((s.procs.length : Int) = (c.procs.length : Int)) (.w 1 [(7,.val (dB false))] <| .b 23 (.e) (.l (kb c s) 0 (fun i => .b 28 (.w 6 [(10,(Ju (c.procs.getD i ao) (s.procs.getD i bg)).O)] <| .b 42 (.e) (.w 5 [(1,.val (i6 ((i + 1 : Nat) : Int)))] <| .e)) (.l (fI c s) 0 (fun n => .b 47 (.s 12 ((b9 (s.chans.getD n []) ((c.chans.getD n a9).w)) = true) (.s 12 (((c.chans.getD n a9).frm) ≥ 0) (.s 12 (((c.chans.getD n a9).dst) ≥ 0) (.w 12 [(7,(Fm (s.chans.getD n []) ((c.chans.getD n a9).w)).O),(9,.val (dB false)),(13,.val (dB true)),(18,.val (dB true))] <| .b 84 (.e) (.w 10 [(1,.val (i6 ((n + 1 : Nat) : Int)))] <| .e)) (.w 12 [(7,(Fm (s.chans.getD n []) ((c.chans.getD n a9).w)).O),(9,.val (dB false)),(13,.val (dB true)),(18,.val (dB false))] <| .w 10 [(1,.val (i6 ((n + 1 : Nat) : Int)))] <| .e)) (.w 12 [(7,(Fm (s.chans.getD n []) ((c.chans.getD n a9).w)).O),(9,.val (dB false)),(13,.val (dB false))] <| .w 10 [(1,.val (i6 ((n + 1 : Nat) : Int)))] <| .e)) (.w 12 [(7,(Fm (s.chans.getD n []) ((c.chans.getD n a9).w)).O),(9,.val (dB true))] <| .e)) (.e)))))) (.w 1 [(7,.val (dB true))] <| .e)) Tryz.func20 rfl rfl rfl (by kernel_rfl) ?_
 refine tt ⟨fun hs0 => ?_,fun hs0 => ?_⟩
 · refine tt ⟨(nF hs0),tt (cn (fun hc23 => ?_) (fun hc23 => ?_))⟩
   · refine tt ⟨?_,oK⟩
     first | exact (fA (by omega)).symm | exact (fB (by omega)).symm | exact (fC (i := i) (by omega) (by simpa using hc42)).symm | exact (cg (n := n) (by omega) (dg (by assumption))).symm | exact (cg (n := n) (by omega) (dh (by show 0 ≤ (c.chans.getD n a9).frm; omega) (by show 0 ≤ (c.chans.getD n a9).dst; omega) (by show ¬((s.chans.getD n []).length : Int) ≤ (c.chans.getD n a9).cap; omega))).symm | exact (fD (by omega) (by omega) (fun z hz => h3 z (by omega)) (fun z hz => h4 z (by omega))).symm
   · refine tt ⟨rfl,⟨by omega,fun z hz => by omega⟩,?_⟩
     intro i hinv
     obtain ⟨hi,h3⟩ := hinv
     refine tt (cd (fun hc28 => ?_) (fun hc28 => ?_))
     · have hpk := hc.pr i (by omega)
       refine tt ⟨ix,tt ⟨ix,tt ⟨(BG (c.procs.getD i ao) (s.procs.getD i bg) hpk),tt ⟨fun hc42 => ?_,fun hc42 => ?_⟩⟩⟩⟩
       · refine tt ⟨?_,oK⟩
         first | exact (fA (by omega)).symm | exact (fB (by omega)).symm | exact (fC (i := i) (by omega) (by simpa using hc42)).symm | exact (cg (n := n) (by omega) (dg (by assumption))).symm | exact (cg (n := n) (by omega) (dh (by show 0 ≤ (c.chans.getD n a9).frm; omega) (by show 0 ≤ (c.chans.getD n a9).dst; omega) (by show ¬((s.chans.getD n []).length : Int) ≤ (c.chans.getD n a9).cap; omega))).symm | exact (fD (by omega) (by omega) (fun z hz => h3 z (by omega)) (fun z hz => h4 z (by omega))).symm
       · refine tt ⟨w6,tt ⟨(i + 1),rfl,?_,(?_ : c.procs.length - (i + 1) < c.procs.length - i)⟩⟩
         · exact ⟨by omega,bU h3 (by simpa using hc42)⟩
         · omega
     · refine tt ⟨rfl,⟨by omega,fun z hz => by omega⟩,?_⟩
       intro n hinv
       obtain ⟨hn,h4⟩ := hinv
       refine tt (cd (fun hc47 => ?_) (fun hc47 => ?_))
       · refine tt ⟨ix,tt ?_⟩
         have hlw : (s.chans.getD n []).length ≤ 9223372036854775807 := hsm n
         refine ⟨fun hs1 => ?_,fun hs1 => ?_⟩
         · refine ⟨fun hs2 => ?_,fun hs2 => ?_⟩
           · refine ⟨fun hs3 => ?_,fun hs3 => ?_⟩
             · refine tt ⟨ix,tt ⟨(ka (s.chans.getD n []) ((c.chans.getD n a9).w) hlw),tt ⟨(mF hs1),tt ⟨(vT hs2),tt ⟨(vT hs3),tt ⟨ix,tt (cd (fun hc84 => ?_) (fun hc84 => ?_))⟩⟩⟩⟩⟩⟩
               · refine tt ⟨?_,oK⟩
                 first | exact (fA (by omega)).symm | exact (fB (by omega)).symm | exact (fC (i := i) (by omega) (by simpa using hc42)).symm | exact (cg (n := n) (by omega) (dg (by assumption))).symm | exact (cg (n := n) (by omega) (dh (by show 0 ≤ (c.chans.getD n a9).frm; omega) (by show 0 ≤ (c.chans.getD n a9).dst; omega) (by show ¬((s.chans.getD n []).length : Int) ≤ (c.chans.getD n a9).cap; omega))).symm | exact (fD (by omega) (by omega) (fun z hz => h3 z (by omega)) (fun z hz => h4 z (by omega))).symm
               · refine tt ⟨w6,tt ⟨(n + 1),rfl,?_,(?_ : c.chans.length - (n + 1) < c.chans.length - n)⟩⟩
                 · refine ⟨by omega,bU h4 ?_⟩
                   first | exact qe (by assumption) (by show ¬0 ≤ (c.chans.getD n a9).frm; omega) | exact qf (by assumption) (by show ¬0 ≤ (c.chans.getD n a9).dst; omega) | exact qg (by assumption) (by show ((s.chans.getD n []).length : Int) ≤ (c.chans.getD n a9).cap; omega)
                 · omega
             · refine tt ⟨ix,tt ⟨(ka (s.chans.getD n []) ((c.chans.getD n a9).w) hlw),tt ⟨(mF hs1),tt ⟨(vT hs2),tt ⟨(vF hs3),tt ⟨w6,tt ⟨(n + 1),rfl,?_,(?_ : c.chans.length - (n + 1) < c.chans.length - n)⟩⟩⟩⟩⟩⟩⟩
               · refine ⟨by omega,bU h4 ?_⟩
                 first | exact qe (by assumption) (by show ¬0 ≤ (c.chans.getD n a9).frm; omega) | exact qf (by assumption) (by show ¬0 ≤ (c.chans.getD n a9).dst; omega) | exact qg (by assumption) (by show ((s.chans.getD n []).length : Int) ≤ (c.chans.getD n a9).cap; omega)
               · omega
           · refine tt ⟨ix,tt ⟨(ka (s.chans.getD n []) ((c.chans.getD n a9).w) hlw),tt ⟨(mF hs1),tt ⟨(vF hs2),tt ⟨w6,tt ⟨(n + 1),rfl,?_,(?_ : c.chans.length - (n + 1) < c.chans.length - n)⟩⟩⟩⟩⟩⟩
             · refine ⟨by omega,bU h4 ?_⟩
               first | exact qe (by assumption) (by show ¬0 ≤ (c.chans.getD n a9).frm; omega) | exact qf (by assumption) (by show ¬0 ≤ (c.chans.getD n a9).dst; omega) | exact qg (by assumption) (by show ((s.chans.getD n []).length : Int) ≤ (c.chans.getD n a9).cap; omega)
             · omega
         · refine tt ⟨ix,tt ⟨(ka (s.chans.getD n []) ((c.chans.getD n a9).w) hlw),tt ⟨(mT hs1),tt ⟨?_,oK⟩⟩⟩⟩
           first | exact (fA (by omega)).symm | exact (fB (by omega)).symm | exact (fC (i := i) (by omega) (by simpa using hc42)).symm | exact (cg (n := n) (by omega) (dg (by assumption))).symm | exact (cg (n := n) (by omega) (dh (by show 0 ≤ (c.chans.getD n a9).frm; omega) (by show 0 ≤ (c.chans.getD n a9).dst; omega) (by show ¬((s.chans.getD n []).length : Int) ≤ (c.chans.getD n a9).cap; omega))).symm | exact (fD (by omega) (by omega) (fun z hz => h3 z (by omega)) (fun z hz => h4 z (by omega))).symm
       · refine tt ⟨?_,oK⟩
         first | exact (fA (by omega)).symm | exact (fB (by omega)).symm | exact (fC (i := i) (by omega) (by simpa using hc42)).symm | exact (cg (n := n) (by omega) (dg (by assumption))).symm | exact (cg (n := n) (by omega) (dh (by show 0 ≤ (c.chans.getD n a9).frm; omega) (by show 0 ≤ (c.chans.getD n a9).dst; omega) (by show ¬((s.chans.getD n []).length : Int) ≤ (c.chans.getD n a9).cap; omega))).symm | exact (fD (by omega) (by omega) (fun z hz => h3 z (by omega)) (fun z hz => h4 z (by omega))).symm
 · refine tt ⟨(nT hs0),tt ⟨?_,oK⟩⟩
   first | exact (fA (by omega)).symm | exact (fB (by omega)).symm | exact (fC (i := i) (by omega) (by simpa using hc42)).symm | exact (cg (n := n) (by omega) (dg (by assumption))).symm | exact (cg (n := n) (by omega) (dh (by show 0 ≤ (c.chans.getD n a9).frm; omega) (by show 0 ≤ (c.chans.getD n a9).dst; omega) (by show ¬((s.chans.getD n []).length : Int) ≤ (c.chans.getD n a9).cap; omega))).symm | exact (fD (by omega) (by omega) (fun z hz => h3 z (by omega)) (fun z hz => h4 z (by omega))).symm
abbrev JA (c : Ci) : Ct := ⟨27,[(.agg (mR c))],true,(.agg [(dL 2 bc bg ((av c).procs)),(dL 1 ac [] ((av c).chans))])⟩
abbrev mm (c : Ci) : Lp (Nat) := ga [1,2,3,4] 5 (fun (i : Nat) => ⟨[(1,(.ptr 0 0 0 0)),(2,(.ptr 1 0 0 0)),(3,(.ptr 3 0 0 0)),(4,(i6 (i : Int)))],[(.var 31 (mR c)),(.var 36 [.nils,.nils]),(.arr 43 1 ac [] (List.replicate c.chans.length ([] : List Int))),(.var 36 [(.own 4),(.own 2)]),(.arr 45 2 bc bg (ap (fun i => aV (bC c i)) i))]⟩) (fun (i : Nat) => i ≤ c.procs.length) (fun (i : Nat) => c.procs.length - i)
theorem BK (c : Ci) (hc : bM c) : CC (JA c) := by
 have hnl := hc.nl
 have hcl := hc.cl
 refine ai.vc (V := TT 5 ((((0 : Int) ≤ (c.chans.length : Int)∧(c.chans.length : Int) ≤ (c.chans.length : Int)∧(c.chans.length : Int) ≤ 137438953472)∧(List.replicate c.chans.length ([] : List Int)).length = c.chans.length∧∀ x ∈ (List.replicate c.chans.length ([] : List Int)),cy [.nils] (ac x))∧TT 4 (GO (mm c) 0 (∀ i,(mm c).inv i → TT 5 (CD ((i : Int) < (c.procs.length : Int)) (TT 5 (IX (i : Int) c.procs.length∧TT 1 (CC (Jv (c.procs.getD i ao))∧am [[(LI ((aV (c.procs.getD i ao)).regs)),(dL 1 ac [] ((aV (c.procs.getD i ao)).mems))]] ([(⟨(aV (c.procs.getD i ao)).regs,(aV (c.procs.getD i ao)).mems⟩ : Ps)].map bc)∧((ap (fun i => aV (bC c i)) i).length + ([(⟨(aV (c.procs.getD i ao)).regs,(aV (c.procs.getD i ao)).mems⟩ : Ps)].map bc).length ≤ 137438953472∧(ap (fun i => aV (bC c i)) i).map bc ++ [(⟨(aV (c.procs.getD i ao)).regs,(aV (c.procs.getD i ao)).mems⟩ : Ps)].map bc = (ap (fun i => aV (bC c i)) (i + 1)).map bc)∧TT 3 (W6 ((i + 1 : Nat) : Int)∧TT 1 (AG (mm c) i (i + 1)))))) (TT 3 ((ap (fun i => aV (bC c i)) i).map bc = ((av c).procs).map bc∧(List.replicate c.chans.length ([] : List Int)).map ac = ((av c).chans).map ac∧True))))))) (.w 1 [(3,.box 43 1 ac [] (List.replicate c.chans.length ([] : List Int)))] <| .g 2 3 0 45 2 bc bg <| .l (mm c) 0 (fun i => .b 14 (.w 5 [(7,(Jv (c.procs.getD i ao)).O),(8,.box 45 2 bc bg [(⟨(aV (c.procs.getD i ao)).regs,(aV (c.procs.getD i ao)).mems⟩ : Ps)]),(9,.box 45 2 bc bg (ap (fun i => aV (bC c i)) (i + 1)))] <| .w 4 [(1,.val (i6 ((i + 1 : Nat) : Int)))] <| .e) (.e))) Tryz.func27 rfl rfl rfl (by kernel_rfl) ?_
 refine tt ⟨⟨by omega,by simp,fun x hx => by rw [List.eq_of_mem_replicate hx]; exact ⟨rfl,oK⟩⟩,tt ⟨rfl,(by omega),?_⟩⟩
 intro i hinv
 have hi := hinv
 refine tt (cd (fun hc14 => ?_) (fun hc14 => ?_))
 · have hpk := hc.pr i (by omega)
   refine tt ⟨ix,tt ⟨(BH (c.procs.getD i ao) hpk),⟨⟨⟨rfl,rfl,oK⟩,oK⟩,⟨(gF (f := fun i => aV (bC c i)) (by omega)),tt ⟨w6,tt ⟨(i + 1),rfl,(?_ : (i + 1) ≤ c.procs.length),(?_ : c.procs.length - (i + 1) < c.procs.length - i)⟩⟩⟩⟩⟩⟩
   · omega
   · omega
 · refine tt ⟨(congrArg _ (?_ : (ap (fun i => aV (bC c i)) i) = ((av c).procs))),(congrArg _ (?_ : (List.replicate c.chans.length ([] : List Int)) = ((av c).chans))),oK⟩
   · rw [show i = c.procs.length by omega]; rfl
   · rfl
abbrev JB (s : Ns) (n : Int) (l : List Int) : Ct := ⟨60,[(.agg (pk s)),(i6 n),(LI l)],true,(.agg [(dL 2 bc bg ((gv s n.toNat l).procs)),(dL 1 ac [] ((gv s n.toNat l).chans))])⟩
theorem Fo (s : Ns) (n : Int) (l : List Int) (h1 : 0 ≤ n) (h2 : n < s.chans.length) (h3 : s.chans.length ≤ 1000000) : CC (JB s n l) := by
 refine ai.vc (V := TT 4 (am [] (([] : List (List Int)).map ac)∧TT 2 ((([] : List (List Int)).length + (s.chans.map ac).length ≤ 137438953472∧([] : List (List Int)).map ac ++ s.chans.map ac = s.chans.map ac)∧TT 7 (IX n s.chans.length∧(n.toNat < s.chans.length∧(s.chans.map ac).set n.toNat ((ac (s.chans.getD n.toNat [])).take 0 ++ [(.sl 1 (af .i64) 0 l)] ++ (ac (s.chans.getD n.toNat [])).drop (0 + 1)) = (s.chans.set n.toNat l).map ac)∧TT 3 (s.procs.map bc = ((gv s n.toNat l).procs).map bc∧(s.chans.set n.toNat l).map ac = ((gv s n.toNat l).chans).map ac∧True))))) (.w 1 [(2,.app false 43 1 ac [] ([] : List (List Int))),(5,.app false 43 1 ac [] s.chans)] <| .w 2 [(5,.box 43 1 ac [] (s.chans.set n.toNat l))] <| .e) Tryz.func60 rfl rfl rfl (by kernel_rfl) ?_
 refine tt ⟨oK,tt ⟨⟨by simp only [List.length_map,List.length_cons,List.length_nil,List.length_append,List.length_drop,List.length_take]; first | omega | (simp; first | done | omega),by simp only [List.map_append,List.map_nil,List.append_nil,List.nil_append]⟩,tt ⟨ix,⟨⟨om,by simp only [List.map_set]; rfl⟩,tt ⟨(congrArg _ (?_ : s.procs = ((gv s n.toNat l).procs))),(congrArg _ (?_ : (s.chans.set n.toNat l) = ((gv s n.toNat l).chans))),oK⟩⟩⟩⟩⟩
 all_goals (rfl)
abbrev JC (c : Ci) (s : Ns) (p : Nat) : Ct := ⟨51,[(.agg (mR c)),(.agg (pk s)),(i6 (p : Int))],true,(.agg [(dL 2 bo aJ (cx c s p)),(LB (c4 c s p))])⟩
abbrev lu (c : Ci) (s : Ns) (p : Nat) : Lp (Nat) := ga [2,3,4,6,7,8] 5 (fun (i : Nat) => ⟨[(2,(i6 (p : Int))),(3,(.ptr 0 0 0 0)),(4,(.ptr 1 0 0 0)),(6,(.ptr 2 0 0 0)),(7,(.ptr 3 0 0 0)),(8,(i6 (i : Int)))],[(.var 31 (mR c)),(.var 36 (pk s)),(.var 121 [.nils,.nils]),(.var 121 [(.own 4),.nils]),(.arr 68 2 bo aJ (ap (bZ c s p) i))]⟩) (fun (i : Nat) => i ≤ (c.procs.getD p ao).takes.length) (fun (i : Nat) => (c.procs.getD p ao).takes.length - i)
abbrev lv (c : Ci) (s : Ns) (p : Nat) (i : Nat) : Lp (Nat) := ga [2,3,4,6,7,11] 6 (fun (m : Nat) => ⟨[(2,(i6 (p : Int))),(3,(.ptr 0 0 0 0)),(4,(.ptr 1 0 0 0)),(6,(.ptr 2 0 0 0)),(7,(.ptr 3 0 0 0)),(11,(i6 (m : Int)))],[(.var 31 (mR c)),(.var 36 (pk s)),(.var 121 [.nils,.nils]),(.var 121 [(.own 4),(.own 5)]),(.arr 68 2 bo aJ (ap (bZ c s p) i)),(.arr 4 1 aK false (ap (b3 c s p) m))]⟩) (fun (m : Nat) => m ≤ (c.procs.getD p ao).puts.length) (fun (m : Nat) => (c.procs.getD p ao).puts.length - m)
theorem DZ (c : Ci) (s : Ns) (p : Nat) (hc : bM c) (hs : cr c s) (hp : p < c.procs.length) : CC (JC c s p) := by
 have hnl := hc.nl
 have hcl := hc.cl
 have hpk : fq (c.procs.getD p ao) := hc.pr p hp
 have hl1 := hs.pl
 have hl2 := hs.cl
 have ht1 : (c.procs.getD p ao).takes.length ≤ 100 := hpk.tl
 have ht2 : (c.procs.getD p ao).puts.length ≤ 100 := hpk.pl
 refine ai.vc (V := TT 7 (GO (lu c s p) 0 (∀ i,(lu c s p).inv i → TT 4 (IX (p : Int) c.procs.length∧TT 4 (CD ((i : Int) < ((((c.procs.getD p ao).takes).length : Nat) : Int)) (TT 5 (IX (p : Int) c.procs.length∧TT 3 (IX (i : Int) (((c.procs.getD p ao).takes).length)∧TT 2 (IX ((((c.procs.getD p ao).takes).getD i bn).chan) s.chans.length∧TT 8 (CD ((((s.chans.getD (((((c.procs.getD p ao).takes).getD i bn).chan).toNat) []).length : Nat) : Int) > 0) (TT 1 (IX 0 ((s.chans.getD (((((c.procs.getD p ao).takes).getD i bn).chan).toNat) []).length)∧TT 6 (am [[(dB true),(i6 ((s.chans.getD (((((c.procs.getD p ao).takes).getD i bn).chan).toNat) []).getD 0 0))]] ([(⟨true,((s.chans.getD (((((c.procs.getD p ao).takes).getD i bn).chan).toNat) []).getD 0 0)⟩ : Hd)].map bo)∧((ap (bZ c s p) i).length + ([(⟨true,((s.chans.getD (((((c.procs.getD p ao).takes).getD i bn).chan).toNat) []).getD 0 0)⟩ : Hd)].map bo).length ≤ 137438953472∧(ap (bZ c s p) i).map bo ++ [(⟨true,((s.chans.getD (((((c.procs.getD p ao).takes).getD i bn).chan).toNat) []).getD 0 0)⟩ : Hd)].map bo = (ap (bZ c s p) (i + 1)).map bo)∧TT 3 (W6 ((i + 1 : Nat) : Int)∧TT 1 (AG (lu c s p) i (i + 1)))))) (TT 3 (am [[(dB false),(i6 0)]] ([(⟨false,0⟩ : Hd)].map bo)∧((ap (bZ c s p) i).length + ([(⟨false,0⟩ : Hd)].map bo).length ≤ 137438953472∧(ap (bZ c s p) i).map bo ++ [(⟨false,0⟩ : Hd)].map bo = (ap (bZ c s p) (i + 1)).map bo)∧TT 3 (W6 ((i + 1 : Nat) : Int)∧TT 1 (AG (lu c s p) i (i + 1)))))))))) (TT 1 (GO (lv c s p i) 0 (∀ m,(lv c s p i).inv m → TT 4 (IX (p : Int) c.procs.length∧TT 4 (CD ((m : Int) < ((((c.procs.getD p ao).puts).length : Nat) : Int)) (TT 3 (IX (p : Int) c.procs.length∧TT 3 (IX (m : Int) (((c.procs.getD p ao).puts).length)∧TT 3 (CS (((c.chans.getD (((((c.procs.getD p ao).puts).getD m aY).chan).toNat) a9).dst) = (-1)) (TT 5 (IX ((((c.procs.getD p ao).puts).getD m aY).chan) c.chans.length∧TT 3 ((True∧(decide (((c.chans.getD (((((c.procs.getD p ao).puts).getD m aY).chan).toNat) a9).dst) = (-1))) = true)∧TT 1 (am [[(dB true)]] ([true].map aK)∧((ap (b3 c s p) m).length + ([true].map aK).length ≤ 137438953472∧(ap (b3 c s p) m).map aK ++ [true].map aK = (ap (b3 c s p) (m + 1)).map aK)∧TT 3 (W6 ((m + 1 : Nat) : Int)∧TT 1 (AG (lv c s p i) m (m + 1))))))) (TT 5 (IX ((((c.procs.getD p ao).puts).getD m aY).chan) c.chans.length∧TT 3 ((True∧(decide (((c.chans.getD (((((c.procs.getD p ao).puts).getD m aY).chan).toNat) a9).dst) = (-1))) = false)∧TT 3 (IX ((((c.procs.getD p ao).puts).getD m aY).chan) s.chans.length∧TT 5 (IX ((((c.procs.getD p ao).puts).getD m aY).chan) c.chans.length∧TT 4 (am [[(dB (decide ((((s.chans.getD (((((c.procs.getD p ao).puts).getD m aY).chan).toNat) []).length : Nat) : Int) < ((c.chans.getD (((((c.procs.getD p ao).puts).getD m aY).chan).toNat) a9).cap))))]] ([decide ((((s.chans.getD (((((c.procs.getD p ao).puts).getD m aY).chan).toNat) []).length : Nat) : Int) < ((c.chans.getD (((((c.procs.getD p ao).puts).getD m aY).chan).toNat) a9).cap))].map aK)∧((ap (b3 c s p) m).length + ([decide ((((s.chans.getD (((((c.procs.getD p ao).puts).getD m aY).chan).toNat) []).length : Nat) : Int) < ((c.chans.getD (((((c.procs.getD p ao).puts).getD m aY).chan).toNat) a9).cap))].map aK).length ≤ 137438953472∧(ap (b3 c s p) m).map aK ++ [decide ((((s.chans.getD (((((c.procs.getD p ao).puts).getD m aY).chan).toNat) []).length : Nat) : Int) < ((c.chans.getD (((((c.procs.getD p ao).puts).getD m aY).chan).toNat) a9).cap))].map aK = (ap (b3 c s p) (m + 1)).map aK)∧TT 3 (W6 ((m + 1 : Nat) : Int)∧TT 1 (AG (lv c s p i) m (m + 1))))))))))))) (TT 3 ((ap (bZ c s p) i).map bo = (cx c s p).map bo∧(ap (b3 c s p) m).map aK = (c4 c s p).map aK∧True)))))))))))) (.g 2 3 0 68 2 bo aJ <| .l (lu c s p) 0 (fun i => .b 22 (.b 42 (.w 9 [(3,.box 68 2 bo aJ [(⟨true,((s.chans.getD (((((c.procs.getD p ao).takes).getD i bn).chan).toNat) []).getD 0 0)⟩ : Hd)]),(4,.box 68 2 bo aJ (ap (bZ c s p) (i + 1)))] <| .w 4 [(1,.val (i6 ((i + 1 : Nat) : Int)))] <| .e) (.w 9 [(3,.box 68 2 bo aJ [(⟨false,0⟩ : Hd)]),(4,.box 68 2 bo aJ (ap (bZ c s p) (i + 1)))] <| .w 4 [(1,.val (i6 ((i + 1 : Nat) : Int)))] <| .e)) (.g 10 3 1 4 1 aK false <| .l (lv c s p i) 0 (fun m => .b 61 (.s 14 (((c.chans.getD (((((c.procs.getD p ao).puts).getD m aY).chan).toNat) a9).dst) = (-1)) (.w 14 [(9,.val (dB true)),(24,.box 4 1 aK false [true]),(25,.box 4 1 aK false (ap (b3 c s p) (m + 1)))] <| .w 12 [(1,.val (i6 ((m + 1 : Nat) : Int)))] <| .e) (.w 14 [(9,.val (dB false)),(24,.box 4 1 aK false [decide ((((s.chans.getD (((((c.procs.getD p ao).puts).getD m aY).chan).toNat) []).length : Nat) : Int) < ((c.chans.getD (((((c.procs.getD p ao).puts).getD m aY).chan).toNat) a9).cap))]),(25,.box 4 1 aK false (ap (b3 c s p) (m + 1)))] <| .w 12 [(1,.val (i6 ((m + 1 : Nat) : Int)))] <| .e)) (.e))))) Tryz.func51 rfl rfl rfl (by kernel_rfl) ?_
 refine tt ⟨rfl,(by omega),?_⟩
 intro i hinv
 have hi := hinv
 refine tt ⟨ix,tt (cd (fun hc22 => ?_) (fun hc22 => ?_))⟩
 · have htk : 0 ≤ ((c.procs.getD p ao).takes.getD i bn).chan∧((c.procs.getD p ao).takes.getD i bn).chan < c.chans.length := ⟨(hc.tk p hp i (show i < (c.procs.getD p ao).takes.length by omega)).1,(hc.tk p hp i (show i < (c.procs.getD p ao).takes.length by omega)).2.1⟩
   refine tt ⟨ix,tt ⟨ix,tt ⟨ix,tt (cd (fun hc42 => ?_) (fun hc42 => ?_))⟩⟩⟩
   · refine tt ⟨ix,tt ⟨⟨⟨rfl,rfl,oK⟩,oK⟩,⟨(bw (by omega) (by first | exact (if_pos (show 0 < (s.chans.getD ((c.procs.getD p ao).takes.getD i bn).chan.toNat []).length by omega)).symm | exact (if_neg (show ¬0 < (s.chans.getD ((c.procs.getD p ao).takes.getD i bn).chan.toNat []).length by omega)).symm)),tt ⟨w6,tt ⟨(i + 1),rfl,(?_ : (i + 1) ≤ (c.procs.getD p ao).takes.length),(?_ : (c.procs.getD p ao).takes.length - (i + 1) < (c.procs.getD p ao).takes.length - i)⟩⟩⟩⟩⟩
     · omega
     · omega
   · refine tt ⟨⟨⟨rfl,rfl,oK⟩,oK⟩,⟨(bw (by omega) (by first | exact (if_pos (show 0 < (s.chans.getD ((c.procs.getD p ao).takes.getD i bn).chan.toNat []).length by omega)).symm | exact (if_neg (show ¬0 < (s.chans.getD ((c.procs.getD p ao).takes.getD i bn).chan.toNat []).length by omega)).symm)),tt ⟨w6,tt ⟨(i + 1),rfl,(?_ : (i + 1) ≤ (c.procs.getD p ao).takes.length),(?_ : (c.procs.getD p ao).takes.length - (i + 1) < (c.procs.getD p ao).takes.length - i)⟩⟩⟩⟩
     · omega
     · omega
 · refine tt ⟨rfl,(by omega),?_⟩
   intro m hinv
   have hm := hinv
   refine tt ⟨ix,tt (cd (fun hc61 => ?_) (fun hc61 => ?_))⟩
   · have hpt : 0 ≤ ((c.procs.getD p ao).puts.getD m aY).chan∧((c.procs.getD p ao).puts.getD m aY).chan < c.chans.length := ⟨(hc.pt p hp m (show m < (c.procs.getD p ao).puts.length by omega)).1,(hc.pt p hp m (show m < (c.procs.getD p ao).puts.length by omega)).2.1⟩
     refine tt ⟨ix,tt ⟨ix,tt ⟨fun hs0 => ?_,fun hs0 => ?_⟩⟩⟩
     · refine tt ⟨ix,tt ⟨(vT hs0),tt ⟨⟨⟨rfl,oK⟩,oK⟩,⟨(bw (by omega) (by first | exact (vA hs0).symm | exact (lj hs0).symm | exact (lj hs1).symm)),tt ⟨w6,tt ⟨(m + 1),rfl,(?_ : (m + 1) ≤ (c.procs.getD p ao).puts.length),(?_ : (c.procs.getD p ao).puts.length - (m + 1) < (c.procs.getD p ao).puts.length - m)⟩⟩⟩⟩⟩⟩
       · omega
       · omega
     · refine tt ⟨ix,tt ⟨(vF hs0),tt ⟨ix,tt ⟨ix,tt ⟨⟨⟨rfl,oK⟩,oK⟩,⟨(bw (by omega) (by first | exact (vA hs0).symm | exact (lj hs0).symm | exact (lj hs1).symm)),tt ⟨w6,tt ⟨(m + 1),rfl,(?_ : (m + 1) ≤ (c.procs.getD p ao).puts.length),(?_ : (c.procs.getD p ao).puts.length - (m + 1) < (c.procs.getD p ao).puts.length - m)⟩⟩⟩⟩⟩⟩⟩⟩
       · omega
       · omega
   · refine tt ⟨(congrArg _ (?_ : (ap (bZ c s p) i) = (cx c s p))),(congrArg _ (?_ : (ap (b3 c s p) m) = (c4 c s p))),oK⟩
     · rw [show i = (c.procs.getD p ao).takes.length by omega]; rfl
     · rw [show m = (c.procs.getD p ao).puts.length by omega]; rfl
abbrev HY (c : Ci) (s : Ns) (p : Nat) : Ct := ⟨15,[(.agg (mR c)),(.agg (pk s)),(i6 (p : Int))],true,(.agg [(dB ((aa c s p).fires)),(LI (((aa c s p).s).regs)),(dL 1 ac [] (((aa c s p).s).mems)),(LB ((aa c s p).pops)),(dL 2 bo aJ ((aa c s p).puts))])⟩
theorem ug (c : Ci) (s : Ns) (p : Nat) (hc : bM c) (hs : cr c s) (hp : p < c.procs.length) : CC (HY c s p) := by
 have hnl := hc.nl
 have hcl := hc.cl
 have hpk : fq (c.procs.getD p ao) := hc.pr p hp
 have hl1 := hs.pl
 have hl2 := hs.cl
 have ht1 : (c.procs.getD p ao).takes.length ≤ 100 := hpk.tl
 have ht2 : (c.procs.getD p ao).puts.length ≤ 100 := hpk.pl
 refine ai.vc (V := TT 6 (IX (p : Int) c.procs.length∧TT 4 (IX (p : Int) s.procs.length∧TT 4 (CC (JC c s p)∧CC (Jy (c.procs.getD p ao) (s.procs.getD p bg) (cx c s p) (c4 c s p))∧TT 2 (((aP (c.procs.getD p ao) (s.procs.getD p bg) (cx c s p) (c4 c s p)).fires) = ((aa c s p).fires)∧(((aP (c.procs.getD p ao) (s.procs.getD p bg) (cx c s p) (c4 c s p)).s).regs).map (af .i64) = (((aa c s p).s).regs).map (af .i64)∧(((aP (c.procs.getD p ao) (s.procs.getD p bg) (cx c s p) (c4 c s p)).s).mems).map ac = (((aa c s p).s).mems).map ac∧((aP (c.procs.getD p ao) (s.procs.getD p bg) (cx c s p) (c4 c s p)).pops).map aK = ((aa c s p).pops).map aK∧((aP (c.procs.getD p ao) (s.procs.getD p bg) (cx c s p) (c4 c s p)).puts).map bo = ((aa c s p).puts).map bo∧True))))) (.w 1 [(13,(JC c s p).O),(14,(Jy (c.procs.getD p ao) (s.procs.getD p bg) (cx c s p) (c4 c s p)).O)] <| .e) Tryz.func15 rfl rfl rfl (by kernel_rfl) ?_
 refine tt ⟨ix,tt ⟨ix,tt ⟨(DZ c s p hc hs hp),⟨(BI (c.procs.getD p ao) (s.procs.getD p bg) (cx c s p) (c4 c s p) hpk (hs.pv p hp) (oT hc hs hp) (by rw [c4,aR])),tt ⟨?_,(congrArg _ (?_ : (((aP (c.procs.getD p ao) (s.procs.getD p bg) (cx c s p) (c4 c s p)).s).regs) = (((aa c s p).s).regs))),(congrArg _ (?_ : (((aP (c.procs.getD p ao) (s.procs.getD p bg) (cx c s p) (c4 c s p)).s).mems) = (((aa c s p).s).mems))),(congrArg _ (?_ : ((aP (c.procs.getD p ao) (s.procs.getD p bg) (cx c s p) (c4 c s p)).pops) = ((aa c s p).pops))),(congrArg _ (?_ : ((aP (c.procs.getD p ao) (s.procs.getD p bg) (cx c s p) (c4 c s p)).puts) = ((aa c s p).puts))),oK⟩⟩⟩⟩⟩
 all_goals (rfl)
abbrev JD (c : Ci) (s : Ns) (p : Int) : Ct := ⟨34,[(.agg (mR c)),(.agg (pk s)),(i6 p)],false,(dB (cM c s p))⟩
theorem Fp (c : Ci) (s : Ns) (p : Int) (hc : bM c) (hs : cr c s) : CC (JD c s p) := by
 have hnl := hc.nl
 have hcl := hc.cl
 refine ai.vc (V := TT 3 (CS (p ≥ 0) (CS (p < (c.procs.length : Int)) (TT 2 ((True∧(decide (p ≥ 0)) = true)∧TT 6 ((True∧(decide (p < (c.procs.length : Int))) = true)∧TT 2 ((True∧p = (p.toNat : Int))∧CC (HY c s p.toNat)∧TT 4 (((aa c s p.toNat).fires) = (cM c s p)∧True))))) (TT 2 ((True∧(decide (p ≥ 0)) = true)∧TT 6 ((True∧(decide (p < (c.procs.length : Int))) = false)∧TT 8 (false = (cM c s p)∧True))))) (TT 2 ((True∧(decide (p ≥ 0)) = false)∧TT 15 (false = (cM c s p)∧True))))) (.s 1 (p ≥ 0) (.s 1 (p < (c.procs.length : Int)) (.w 1 [(2,.val (dB true)),(9,.val (dB true)),(12,.val (i6 (p.toNat : Int))),(13,(HY c s p.toNat).O)] <| .e) (.w 1 [(2,.val (dB true)),(9,.val (dB false))] <| .e)) (.w 1 [(2,.val (dB false))] <| .e)) Tryz.func34 rfl rfl rfl (by kernel_rfl) ?_
 refine tt ⟨fun hs0 => ?_,fun hs0 => ?_⟩
 · refine ⟨fun hs1 => ?_,fun hs1 => ?_⟩
   · refine tt ⟨(vT hs0),tt ⟨(vT hs1),tt ⟨⟨oK,(by omega)⟩,⟨(ug c s p.toNat hc hs (by omega)),tt ⟨?_,oK⟩⟩⟩⟩⟩
     first | exact (jk (by omega)).symm | exact (jl (by omega)).symm | exact (jU (by omega) (by omega)).symm
   · refine tt ⟨(vT hs0),tt ⟨(vF hs1),tt ⟨?_,oK⟩⟩⟩
     first | exact (jk (by omega)).symm | exact (jl (by omega)).symm | exact (jU (by omega) (by omega)).symm
 · refine tt ⟨(vF hs0),tt ⟨?_,oK⟩⟩
   first | exact (jk (by omega)).symm | exact (jl (by omega)).symm | exact (jU (by omega) (by omega)).symm
abbrev BL (a b : Ns) : Ct := ⟨22,[(.agg [(dL 2 bc bg a.procs),(dL 1 ac [] a.chans)]),(.agg [(dL 2 bc bg b.procs),(dL 1 ac [] b.chans)])],false,(dB (ct a b))⟩
abbrev mq (a : Ns) (b : Ns) : Lp (Nat) := ga [2,3,5] 2 (fun (i : Nat) => ⟨[(2,(.ptr 0 0 0 0)),(3,(.ptr 1 0 0 0)),(5,(i6 (i : Int)))],[(.var 36 [(dL 2 bc bg a.procs),(dL 1 ac [] a.chans)]),(.var 36 [(dL 2 bc bg b.procs),(dL 1 ac [] b.chans)])]⟩) (fun (i : Nat) => i ≤ a.procs.length∧∀ z,z < i → dF (a.procs.getD z bg) (b.procs.getD z bg) = true) (fun (i : Nat) => a.procs.length - i)
abbrev mr (a : Ns) (b : Ns) : Lp (Nat) := ga [2,3,6] 2 (fun (n : Nat) => ⟨[(2,(.ptr 0 0 0 0)),(3,(.ptr 1 0 0 0)),(6,(i6 (n : Int)))],[(.var 36 [(dL 2 bc bg a.procs),(dL 1 ac [] a.chans)]),(.var 36 [(dL 2 bc bg b.procs),(dL 1 ac [] b.chans)])]⟩) (fun (n : Nat) => n ≤ a.chans.length∧∀ z,z < n → a.chans.getD z [] = b.chans.getD z []) (fun (n : Nat) => a.chans.length - n)
theorem gT (a b : Ns) (hz : J7 a) : CC (BL a b) := by
 obtain ⟨hap,hac,hcb,hpa,hpb,hpc⟩ := hz
 refine ai.vc (V := TT 3 (CS ((a.procs.length : Int) = (b.procs.length : Int)) (TT 7 ((True∧(!decide ((a.procs.length : Int) = (b.procs.length : Int))) = false)∧TT 8 (CN ((a.chans.length : Int) = (b.chans.length : Int)) (TT 2 (false = (ct a b)∧True)) (TT 1 (GO (mq a b) 0 (∀ i,(mq a b).inv i → TT 5 (CD ((i : Int) < (a.procs.length : Int)) (TT 3 (IX (i : Int) a.procs.length∧TT 4 (IX (i : Int) b.procs.length∧TT 1 (CC (Jz (a.procs.getD i bg) (b.procs.getD i bg))∧TT 1 (CB (!(dF (a.procs.getD i bg) (b.procs.getD i bg))) (TT 2 (false = (ct a b)∧True)) (TT 1 (W6 ((i + 1 : Nat) : Int)∧TT 1 (AG (mq a b) i (i + 1))))))))) (TT 1 (GO (mr a b) 0 (∀ n,(mr a b).inv n → TT 5 (CD ((n : Int) < (a.chans.length : Int)) (TT 3 (IX (n : Int) a.chans.length∧TT 4 (IX (n : Int) b.chans.length∧TT 1 (CC (y9 (a.chans.getD n []) (b.chans.getD n []))∧TT 1 (CN ((a.chans.getD n []) = (b.chans.getD n [])) (TT 2 (false = (ct a b)∧True)) (TT 1 (W6 ((n + 1 : Nat) : Int)∧TT 1 (AG (mr a b) n (n + 1))))))))) (TT 2 (true = (ct a b)∧True))))))))))))) (TT 7 ((True∧(!decide ((a.procs.length : Int) = (b.procs.length : Int))) = true)∧TT 10 (false = (ct a b)∧True))))) (.s 1 ((a.procs.length : Int) = (b.procs.length : Int)) (.w 1 [(7,.val (dB false))] <| .b 22 (.e) (.l (mq a b) 0 (fun i => .b 27 (.w 6 [(10,(Jz (a.procs.getD i bg) (b.procs.getD i bg)).O)] <| .b 41 (.e) (.w 5 [(1,.val (i6 ((i + 1 : Nat) : Int)))] <| .e)) (.l (mr a b) 0 (fun n => .b 46 (.w 11 [(10,(y9 (a.chans.getD n []) (b.chans.getD n [])).O)] <| .b 60 (.e) (.w 10 [(1,.val (i6 ((n + 1 : Nat) : Int)))] <| .e)) (.e)))))) (.w 1 [(7,.val (dB true))] <| .e)) Tryz.func22 rfl rfl rfl (by kernel_rfl) ?_
 refine tt ⟨fun hs0 => ?_,fun hs0 => ?_⟩
 · refine tt ⟨(nF hs0),tt (cn (fun hc22 => ?_) (fun hc22 => ?_))⟩
   · refine tt ⟨?_,oK⟩
     first | exact (il (by omega)).symm | exact (im (by omega)).symm | exact (io (i := i) (by omega) (by simpa using hc41)).symm | exact (ip (n := n) (by simpa using hc60)).symm | exact (iq (by omega) (by omega) (fun z hz => h3 z (by omega)) (fun z hz => h4 z (by omega))).symm
   · refine tt ⟨rfl,⟨by omega,fun z hz => by omega⟩,?_⟩
     intro i hinv
     obtain ⟨hi,h3⟩ := hinv
     refine tt (cd (fun hc27 => ?_) (fun hc27 => ?_))
     · refine tt ⟨ix,tt ⟨ix,tt ⟨(BJ (a.procs.getD i bg) (b.procs.getD i bg) (by have := hpa i; omega) (by have := hpb i; omega) (fun j => by have := hpc i j; omega)),tt ⟨fun hc41 => ?_,fun hc41 => ?_⟩⟩⟩⟩
       · refine tt ⟨?_,oK⟩
         first | exact (il (by omega)).symm | exact (im (by omega)).symm | exact (io (i := i) (by omega) (by simpa using hc41)).symm | exact (ip (n := n) (by simpa using hc60)).symm | exact (iq (by omega) (by omega) (fun z hz => h3 z (by omega)) (fun z hz => h4 z (by omega))).symm
       · refine tt ⟨w6,tt ⟨(i + 1),rfl,?_,(?_ : a.procs.length - (i + 1) < a.procs.length - i)⟩⟩
         · exact ⟨by omega,bU h3 (by simpa using hc41)⟩
         · omega
     · refine tt ⟨rfl,⟨by omega,fun z hz => by omega⟩,?_⟩
       intro n hinv
       obtain ⟨hn,h4⟩ := hinv
       refine tt (cd (fun hc46 => ?_) (fun hc46 => ?_))
       · refine tt ⟨ix,tt ⟨ix,tt ⟨(j8 (a.chans.getD n []) (b.chans.getD n []) (by have := hcb n; omega)),tt (cn (fun hc60 => ?_) (fun hc60 => ?_))⟩⟩⟩
         · refine tt ⟨?_,oK⟩
           first | exact (il (by omega)).symm | exact (im (by omega)).symm | exact (io (i := i) (by omega) (by simpa using hc41)).symm | exact (ip (n := n) (by simpa using hc60)).symm | exact (iq (by omega) (by omega) (fun z hz => h3 z (by omega)) (fun z hz => h4 z (by omega))).symm
         · refine tt ⟨w6,tt ⟨(n + 1),rfl,?_,(?_ : a.chans.length - (n + 1) < a.chans.length - n)⟩⟩
           · exact ⟨by omega,bU h4 (by simpa using hc60)⟩
           · omega
       · refine tt ⟨?_,oK⟩
         first | exact (il (by omega)).symm | exact (im (by omega)).symm | exact (io (i := i) (by omega) (by simpa using hc41)).symm | exact (ip (n := n) (by simpa using hc60)).symm | exact (iq (by omega) (by omega) (fun z hz => h3 z (by omega)) (fun z hz => h4 z (by omega))).symm
 · refine tt ⟨(nT hs0),tt ⟨?_,oK⟩⟩
   first | exact (il (by omega)).symm | exact (im (by omega)).symm | exact (io (i := i) (by omega) (by simpa using hc41)).symm | exact (ip (n := n) (by simpa using hc60)).symm | exact (iq (by omega) (by omega) (fun z hz => h3 z (by omega)) (fun z hz => h4 z (by omega))).symm
abbrev GL (a b : List Bool) : Ct := ⟨37,[(LB a),(LB b)],false,(dB (decide (a = b)))⟩
abbrev pm (a : List Bool) (b : List Bool) : Lp (Nat) := ga [0,1,5] 0 (fun (k : Nat) => ⟨[(0,(LB a)),(1,(LB b)),(5,(i6 (k : Int)))],[]⟩) (fun (k : Nat) => k ≤ a.length∧∀ z,z < k → a.getD z false = b.getD z false) (fun (k : Nat) => a.length - k)
theorem sQ (a b : List Bool) (ha : a.length ≤ 9223372036854775807) : CC (GL a b) := by
 refine ai.vc (V := TT 6 (CN ((a.length : Int) = (b.length : Int)) (TT 2 (false = (decide (a = b))∧True)) (TT 1 (GO (pm a b) 0 (∀ k,(pm a b).inv k → TT 4 (CD ((k : Int) < (a.length : Int)) (TT 2 (IX (k : Int) a.length∧TT 3 (IX (k : Int) b.length∧TT 2 (CB (!((a.getD k false) == (b.getD k false))) (TT 2 (false = (decide (a = b))∧True)) (TT 1 (W6 ((k + 1 : Nat) : Int)∧TT 1 (AG (pm a b) k (k + 1)))))))) (TT 2 (true = (decide (a = b))∧True)))))))) (.b 10 (.e) (.l (pm a b) 0 (fun k => .b 14 (.b 25 (.e) (.w 5 [(1,.val (i6 ((k + 1 : Nat) : Int)))] <| .e)) (.e)))) Tryz.func37 rfl rfl rfl (by kernel_rfl) ?_
 refine tt (cn (fun hc10 => ?_) (fun hc10 => ?_))
 · refine tt ⟨?_,oK⟩
   first | exact (decide_eq_false (fun e => by subst e; omega)).symm | exact (decide_eq_false (fun e => by rw [e] at hc25; simp at hc25)).symm | exact (decide_eq_true (dA (by omega) (by omega) hall)).symm
 · refine tt ⟨rfl,⟨by omega,fun z hz => by omega⟩,?_⟩
   intro k hinv
   obtain ⟨hk,hall⟩ := hinv
   refine tt (cd (fun hc14 => ?_) (fun hc14 => ?_))
   · refine tt ⟨ix,tt ⟨ix,tt ⟨fun hc25 => ?_,fun hc25 => ?_⟩⟩⟩
     · refine tt ⟨?_,oK⟩
       first | exact (decide_eq_false (fun e => by subst e; omega)).symm | exact (decide_eq_false (fun e => by rw [e] at hc25; simp at hc25)).symm | exact (decide_eq_true (dA (by omega) (by omega) hall)).symm
     · refine tt ⟨w6,tt ⟨(k + 1),rfl,?_,(?_ : a.length - (k + 1) < a.length - k)⟩⟩
       · exact ⟨by omega,bU hall (by simpa using hc25)⟩
       · omega
   · refine tt ⟨?_,oK⟩
     first | exact (decide_eq_false (fun e => by subst e; omega)).symm | exact (decide_eq_false (fun e => by rw [e] at hc25; simp at hc25)).symm | exact (decide_eq_true (dA (by omega) (by omega) hall)).symm
end Go.Proofs.YtifoecfajmnjjaaGreat
