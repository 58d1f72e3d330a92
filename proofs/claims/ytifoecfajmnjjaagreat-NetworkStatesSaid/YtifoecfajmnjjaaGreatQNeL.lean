/-
  The reference of package network: states, words, single processes.
-/
import Derived.Test.YtifoecfajmnjjaaGreatQNeJ
import Derived.Test.YtifoecfajmnjjaaGreatQNeK
import Derived.Test.YtifoecfajmnjjaaGreatQPrD
namespace Go.Proofs.YtifoecfajmnjjaaGreat
open Go.RowKit
set_option linter.unusedVariables false
set_option linter.unusedSimpArgs false
abbrev pK (s : Ns) : List D := [(dL 2 bl a7 s.procs),(dL 1 af [] s.chans)]
abbrev nk (c : Ci) : List D := [(dL 6 eY av c.procs),(dL 5 iM be c.chans)]
set_option maxRecDepth 100000
abbrev Fk (l : List Int) (w : Int) : Ct := ⟨55,[(LI l),(i6 w)],false,(dB (cg l w))⟩
abbrev ky (l : List Int) (w : Int) : Lp (Nat) := gJ [0,1,5] 0 (fun (i : Nat) => ⟨[(0,(LI l)),(1,(i6 w)),(5,(i6 (i : Int)))],[]⟩) (fun (i : Nat) => i ≤ l.length∧∀ z,z < i → cr (l.getD z 0) w = true) (fun (i : Nat) => l.length - i)
theorem kz (l : List Int) (w : Int) (hl : l.length ≤ 9223372036854775807) : CC (Fk l w) := by
 refine ak.vc (V := TT 2 (GO (ky l w) 0 (∀ i,(ky l w).inv i → TT 4 (CD ((i : Int) < (l.length : Int)) (CS ((l.getD i 0) < 0) (TT 2 (IX (i : Int) l.length∧TT 2 ((True∧(decide ((l.getD i 0) < 0)) = true)∧TT 3 (false = (cg l w)∧True)))) (TT 2 (IX (i : Int) l.length∧TT 2 ((True∧(decide ((l.getD i 0) < 0)) = false)∧TT 2 (IX (i : Int) l.length∧TT 2 (CC (zc w)∧TT 2 (CD ((l.getD i 0) > (aj w)) (TT 2 (false = (cg l w)∧True)) (TT 1 (W6 ((i + 1 : Nat) : Int)∧TT 1 (AG (ky l w) i (i + 1))))))))))) (TT 2 (true = (cg l w)∧True)))))) (.l (ky l w) 0 (fun i => .b 9 (.s 4 ((l.getD i 0) < 0) (.w 4 [(5,.val (dB true))] <| .e) (.w 4 [(5,.val (dB false)),(11,(zc w).O)] <| .b 25 (.e) (.w 3 [(1,.val (i6 ((i + 1 : Nat) : Int)))] <| .e))) (.e))) Tryz.func55 rfl rfl rfl (by kernel_rfl) ?_
 refine tt ⟨rfl,⟨by omega,fun z hz => by omega⟩,?_⟩
 intro i hinv
 obtain ⟨hi,h3⟩ := hinv
 refine tt (cd (fun hc9 => ?_) (fun hc9 => ?_))
 · refine ⟨fun hs0 => ?_,fun hs0 => ?_⟩
   · refine tt ⟨ix,tt ⟨(vT hs0),tt ⟨?_,oK⟩⟩⟩
     first | exact (my (i := i) (by omega) (vX hs0)).symm | exact (my (i := i) (by omega) (vY hc25)).symm | exact (s5 (fun z hz => h3 z (by omega))).symm
   · refine tt ⟨ix,tt ⟨(vF hs0),tt ⟨ix,tt ⟨(iB w),tt (cd (fun hc25 => ?_) (fun hc25 => ?_))⟩⟩⟩⟩
     · refine tt ⟨?_,oK⟩
       first | exact (my (i := i) (by omega) (vX hs0)).symm | exact (my (i := i) (by omega) (vY hc25)).symm | exact (s5 (fun z hz => h3 z (by omega))).symm
     · refine tt ⟨w6,tt ⟨(i + 1),rfl,?_,(?_ : l.length - (i + 1) < l.length - i)⟩⟩
       · exact ⟨by omega,ce h3 (E8 hs0 hc25)⟩
       · omega
 · refine tt ⟨?_,oK⟩
   first | exact (my (i := i) (by omega) (vX hs0)).symm | exact (my (i := i) (by omega) (vY hc25)).symm | exact (s5 (fun z hz => h3 z (by omega))).symm
abbrev D0 (c : Ci) (s : Ns) : Ct := ⟨20,[(.agg (nk c)),(.agg (pK s))],false,(dB (a4 c s))⟩
abbrev kA (c : Ci) (s : Ns) : Lp (Nat) := gJ [2,3,5] 2 (fun (i : Nat) => ⟨[(2,(.ptr 0 0 0 0)),(3,(.ptr 1 0 0 0)),(5,(i6 (i : Int)))],[(.var 31 (nk c)),(.var 36 (pK s))]⟩) (fun (i : Nat) => i ≤ c.procs.length∧∀ z,z < i → br (ay c z) (yG s z) = true) (fun (i : Nat) => c.procs.length - i)
abbrev f5 (c : Ci) (s : Ns) : Lp (Nat) := gJ [2,3,6] 2 (fun (n : Nat) => ⟨[(2,(.ptr 0 0 0 0)),(3,(.ptr 1 0 0 0)),(6,(i6 (n : Int)))],[(.var 31 (nk c)),(.var 36 (pK s))]⟩) (fun (n : Nat) => n ≤ c.chans.length∧∀ z,z < n → gL c s z = true) (fun (n : Nat) => c.chans.length - n)
theorem iE (c : Ci) (s : Ns) (hc : bR c) (hsm : kO s 9223372036854775807) : CC (D0 c s) := by
 have hnl := hc.nl
 have hcl := hc.cl
 refine ak.vc (V := TT 3 (CS ((s.procs.length : Int) = (c.procs.length : Int)) (TT 7 ((True∧(!decide ((s.procs.length : Int) = (c.procs.length : Int))) = false)∧TT 8 (CN ((s.chans.length : Int) = (c.chans.length : Int)) (TT 2 (false = (a4 c s)∧True)) (TT 1 (GO (kA c s) 0 (∀ i,(kA c s).inv i → TT 5 (CD ((i : Int) < (c.procs.length : Int)) (TT 3 (IX (i : Int) c.procs.length∧TT 4 (IX (i : Int) s.procs.length∧TT 1 (CC (Jk (c.procs.getD i av) (s.procs.getD i a7))∧TT 1 (CB (!(br (c.procs.getD i av) (s.procs.getD i a7))) (TT 2 (false = (a4 c s)∧True)) (TT 1 (W6 ((i + 1 : Nat) : Int)∧TT 1 (AG (kA c s) i (i + 1))))))))) (TT 1 (GO (f5 c s) 0 (∀ n,(f5 c s).inv n → TT 5 (CD ((n : Int) < (c.chans.length : Int)) (TT 3 (IX (n : Int) c.chans.length∧TT 3 (CS ((cg (s.chans.getD n []) ((c.chans.getD n be).w)) = true) (CS (((c.chans.getD n be).frm) ≥ 0) (CS (((c.chans.getD n be).dst) ≥ 0) (TT 3 (IX (n : Int) s.chans.length∧TT 3 (CC (Fk (s.chans.getD n []) ((c.chans.getD n be).w))∧TT 1 ((True∧(!(cg (s.chans.getD n []) ((c.chans.getD n be).w))) = false)∧TT 3 ((True∧(decide (((c.chans.getD n be).frm) ≥ 0)) = true)∧TT 4 ((True∧(decide (((c.chans.getD n be).dst) ≥ 0)) = true)∧TT 3 (IX (n : Int) s.chans.length∧TT 7 (CD ((((s.chans.getD n []).length : Nat) : Int) > ((c.chans.getD n be).cap)) (TT 2 (false = (a4 c s)∧True)) (TT 1 (W6 ((n + 1 : Nat) : Int)∧TT 1 (AG (f5 c s) n (n + 1)))))))))))) (TT 3 (IX (n : Int) s.chans.length∧TT 3 (CC (Fk (s.chans.getD n []) ((c.chans.getD n be).w))∧TT 1 ((True∧(!(cg (s.chans.getD n []) ((c.chans.getD n be).w))) = false)∧TT 3 ((True∧(decide (((c.chans.getD n be).frm) ≥ 0)) = true)∧TT 4 ((True∧(decide (((c.chans.getD n be).dst) ≥ 0)) = false)∧TT 3 (W6 ((n + 1 : Nat) : Int)∧TT 1 (AG (f5 c s) n (n + 1)))))))))) (TT 3 (IX (n : Int) s.chans.length∧TT 3 (CC (Fk (s.chans.getD n []) ((c.chans.getD n be).w))∧TT 1 ((True∧(!(cg (s.chans.getD n []) ((c.chans.getD n be).w))) = false)∧TT 3 ((True∧(decide (((c.chans.getD n be).frm) ≥ 0)) = false)∧TT 5 (W6 ((n + 1 : Nat) : Int)∧TT 1 (AG (f5 c s) n (n + 1))))))))) (TT 3 (IX (n : Int) s.chans.length∧TT 3 (CC (Fk (s.chans.getD n []) ((c.chans.getD n be).w))∧TT 1 ((True∧(!(cg (s.chans.getD n []) ((c.chans.getD n be).w))) = true)∧TT 3 (false = (a4 c s)∧True)))))))) (TT 2 (true = (a4 c s)∧True))))))))))))) (TT 7 ((True∧(!decide ((s.procs.length : Int) = (c.procs.length : Int))) = true)∧TT 10 (false = (a4 c s)∧True))))) (.s 1 ((s.procs.length : Int) = (c.procs.length : Int)) (.w 1 [(7,.val (dB false))] <| .b 23 (.e) (.l (kA c s) 0 (fun i => .b 28 (.w 6 [(10,(Jk (c.procs.getD i av) (s.procs.getD i a7)).O)] <| .b 42 (.e) (.w 5 [(1,.val (i6 ((i + 1 : Nat) : Int)))] <| .e)) (.l (f5 c s) 0 (fun n => .b 47 (.s 12 ((cg (s.chans.getD n []) ((c.chans.getD n be).w)) = true) (.s 12 (((c.chans.getD n be).frm) ≥ 0) (.s 12 (((c.chans.getD n be).dst) ≥ 0) (.w 12 [(7,(Fk (s.chans.getD n []) ((c.chans.getD n be).w)).O),(9,.val (dB false)),(13,.val (dB true)),(18,.val (dB true))] <| .b 84 (.e) (.w 10 [(1,.val (i6 ((n + 1 : Nat) : Int)))] <| .e)) (.w 12 [(7,(Fk (s.chans.getD n []) ((c.chans.getD n be).w)).O),(9,.val (dB false)),(13,.val (dB true)),(18,.val (dB false))] <| .w 10 [(1,.val (i6 ((n + 1 : Nat) : Int)))] <| .e)) (.w 12 [(7,(Fk (s.chans.getD n []) ((c.chans.getD n be).w)).O),(9,.val (dB false)),(13,.val (dB false))] <| .w 10 [(1,.val (i6 ((n + 1 : Nat) : Int)))] <| .e)) (.w 12 [(7,(Fk (s.chans.getD n []) ((c.chans.getD n be).w)).O),(9,.val (dB true))] <| .e)) (.e)))))) (.w 1 [(7,.val (dB true))] <| .e)) Tryz.func20 rfl rfl rfl (by kernel_rfl) ?_
 refine tt ⟨fun hs0 => ?_,fun hs0 => ?_⟩
 · refine tt ⟨(nF hs0),tt (cn (fun hc23 => ?_) (fun hc23 => ?_))⟩
   · refine tt ⟨?_,oK⟩
     first | exact (fU (by omega)).symm | exact (fV (by omega)).symm | exact (fW (i := i) (by omega) (by simpa using hc42)).symm | exact (cu (n := n) (by omega) (dm (by assumption))).symm | exact (cu (n := n) (by omega) (dn (by show 0 ≤ (c.chans.getD n be).frm; omega) (by show 0 ≤ (c.chans.getD n be).dst; omega) (by show ¬((s.chans.getD n []).length : Int) ≤ (c.chans.getD n be).cap; omega))).symm | exact (fX (by omega) (by omega) (fun z hz => h3 z (by omega)) (fun z hz => h4 z (by omega))).symm
   · refine tt ⟨rfl,⟨by omega,fun z hz => by omega⟩,?_⟩
     intro i hinv
     obtain ⟨hi,h3⟩ := hinv
     refine tt (cd (fun hc28 => ?_) (fun hc28 => ?_))
     · have hpk := hc.pr i (by omega)
       refine tt ⟨ix,tt ⟨ix,tt ⟨(BK (c.procs.getD i av) (s.procs.getD i a7) hpk),tt ⟨fun hc42 => ?_,fun hc42 => ?_⟩⟩⟩⟩
       · refine tt ⟨?_,oK⟩
         first | exact (fU (by omega)).symm | exact (fV (by omega)).symm | exact (fW (i := i) (by omega) (by simpa using hc42)).symm | exact (cu (n := n) (by omega) (dm (by assumption))).symm | exact (cu (n := n) (by omega) (dn (by show 0 ≤ (c.chans.getD n be).frm; omega) (by show 0 ≤ (c.chans.getD n be).dst; omega) (by show ¬((s.chans.getD n []).length : Int) ≤ (c.chans.getD n be).cap; omega))).symm | exact (fX (by omega) (by omega) (fun z hz => h3 z (by omega)) (fun z hz => h4 z (by omega))).symm
       · refine tt ⟨w6,tt ⟨(i + 1),rfl,?_,(?_ : c.procs.length - (i + 1) < c.procs.length - i)⟩⟩
         · exact ⟨by omega,ce h3 (by simpa using hc42)⟩
         · omega
     · refine tt ⟨rfl,⟨by omega,fun z hz => by omega⟩,?_⟩
       intro n hinv
       obtain ⟨hn,h4⟩ := hinv
       refine tt (cd (fun hc47 => ?_) (fun hc47 => ?_))
       · refine tt ⟨ix,tt ?_⟩
         have hlw : (s.chans.getD n []).length ≤ 9223372036854775807 := hsm n
         refine ⟨fun hs1 => ?_,fun hs1 => ?_⟩
         · refine ⟨fun hs2 => ?_,fun hs2 => ?_⟩
           · refine ⟨fun hs3 => ?_,fun hs3 => ?_⟩
             · refine tt ⟨ix,tt ⟨(kz (s.chans.getD n []) ((c.chans.getD n be).w) hlw),tt ⟨(mF hs1),tt ⟨(vT hs2),tt ⟨(vT hs3),tt ⟨ix,tt (cd (fun hc84 => ?_) (fun hc84 => ?_))⟩⟩⟩⟩⟩⟩
               · refine tt ⟨?_,oK⟩
                 first | exact (fU (by omega)).symm | exact (fV (by omega)).symm | exact (fW (i := i) (by omega) (by simpa using hc42)).symm | exact (cu (n := n) (by omega) (dm (by assumption))).symm | exact (cu (n := n) (by omega) (dn (by show 0 ≤ (c.chans.getD n be).frm; omega) (by show 0 ≤ (c.chans.getD n be).dst; omega) (by show ¬((s.chans.getD n []).length : Int) ≤ (c.chans.getD n be).cap; omega))).symm | exact (fX (by omega) (by omega) (fun z hz => h3 z (by omega)) (fun z hz => h4 z (by omega))).symm
               · refine tt ⟨w6,tt ⟨(n + 1),rfl,?_,(?_ : c.chans.length - (n + 1) < c.chans.length - n)⟩⟩
                 · refine ⟨by omega,ce h4 ?_⟩
                   first | exact qA (by assumption) (by show ¬0 ≤ (c.chans.getD n be).frm; omega) | exact qB (by assumption) (by show ¬0 ≤ (c.chans.getD n be).dst; omega) | exact qC (by assumption) (by show ((s.chans.getD n []).length : Int) ≤ (c.chans.getD n be).cap; omega)
                 · omega
             · refine tt ⟨ix,tt ⟨(kz (s.chans.getD n []) ((c.chans.getD n be).w) hlw),tt ⟨(mF hs1),tt ⟨(vT hs2),tt ⟨(vF hs3),tt ⟨w6,tt ⟨(n + 1),rfl,?_,(?_ : c.chans.length - (n + 1) < c.chans.length - n)⟩⟩⟩⟩⟩⟩⟩
               · refine ⟨by omega,ce h4 ?_⟩
                 first | exact qA (by assumption) (by show ¬0 ≤ (c.chans.getD n be).frm; omega) | exact qB (by assumption) (by show ¬0 ≤ (c.chans.getD n be).dst; omega) | exact qC (by assumption) (by show ((s.chans.getD n []).length : Int) ≤ (c.chans.getD n be).cap; omega)
               · omega
           · refine tt ⟨ix,tt ⟨(kz (s.chans.getD n []) ((c.chans.getD n be).w) hlw),tt ⟨(mF hs1),tt ⟨(vF hs2),tt ⟨w6,tt ⟨(n + 1),rfl,?_,(?_ : c.chans.length - (n + 1) < c.chans.length - n)⟩⟩⟩⟩⟩⟩
             · refine ⟨by omega,ce h4 ?_⟩
               first | exact qA (by assumption) (by show ¬0 ≤ (c.chans.getD n be).frm; omega) | exact qB (by assumption) (by show ¬0 ≤ (c.chans.getD n be).dst; omega) | exact qC (by assumption) (by show ((s.chans.getD n []).length : Int) ≤ (c.chans.getD n be).cap; omega)
             · omega
         · refine tt ⟨ix,tt ⟨(kz (s.chans.getD n []) ((c.chans.getD n be).w) hlw),tt ⟨(mT hs1),tt ⟨?_,oK⟩⟩⟩⟩
           first | exact (fU (by omega)).symm | exact (fV (by omega)).symm | exact (fW (i := i) (by omega) (by simpa using hc42)).symm | exact (cu (n := n) (by omega) (dm (by assumption))).symm | exact (cu (n := n) (by omega) (dn (by show 0 ≤ (c.chans.getD n be).frm; omega) (by show 0 ≤ (c.chans.getD n be).dst; omega) (by show ¬((s.chans.getD n []).length : Int) ≤ (c.chans.getD n be).cap; omega))).symm | exact (fX (by omega) (by omega) (fun z hz => h3 z (by omega)) (fun z hz => h4 z (by omega))).symm
       · refine tt ⟨?_,oK⟩
         first | exact (fU (by omega)).symm | exact (fV (by omega)).symm | exact (fW (i := i) (by omega) (by simpa using hc42)).symm | exact (cu (n := n) (by omega) (dm (by assumption))).symm | exact (cu (n := n) (by omega) (dn (by show 0 ≤ (c.chans.getD n be).frm; omega) (by show 0 ≤ (c.chans.getD n be).dst; omega) (by show ¬((s.chans.getD n []).length : Int) ≤ (c.chans.getD n be).cap; omega))).symm | exact (fX (by omega) (by omega) (fun z hz => h3 z (by omega)) (fun z hz => h4 z (by omega))).symm
 · refine tt ⟨(nT hs0),tt ⟨?_,oK⟩⟩
   first | exact (fU (by omega)).symm | exact (fV (by omega)).symm | exact (fW (i := i) (by omega) (by simpa using hc42)).symm | exact (cu (n := n) (by omega) (dm (by assumption))).symm | exact (cu (n := n) (by omega) (dn (by show 0 ≤ (c.chans.getD n be).frm; omega) (by show 0 ≤ (c.chans.getD n be).dst; omega) (by show ¬((s.chans.getD n []).length : Int) ≤ (c.chans.getD n be).cap; omega))).symm | exact (fX (by omega) (by omega) (fun z hz => h3 z (by omega)) (fun z hz => h4 z (by omega))).symm
abbrev Jp (c : Ci) : Ct := ⟨27,[(.agg (nk c))],true,(.agg [(dL 2 bl a7 ((az c).procs)),(dL 1 af [] ((az c).chans))])⟩
abbrev mI (c : Ci) : Lp (Nat) := gJ [1,2,3,4] 5 (fun (i : Nat) => ⟨[(1,(.ptr 0 0 0 0)),(2,(.ptr 1 0 0 0)),(3,(.ptr 3 0 0 0)),(4,(i6 (i : Int)))],[(.var 31 (nk c)),(.var 36 [.nils,.nils]),(.arr 43 1 af [] (List.replicate c.chans.length ([] : List Int))),(.var 36 [(.own 4),(.own 2)]),(.arr 45 2 bl a7 (an (fun i => aX (ay c i)) i))]⟩) (fun (i : Nat) => i ≤ c.procs.length) (fun (i : Nat) => c.procs.length - i)
theorem BN (c : Ci) (hc : bR c) : CC (Jp c) := by
 have hnl := hc.nl
 have hcl := hc.cl
 refine ak.vc (V := TT 5 ((((0 : Int) ≤ (c.chans.length : Int)∧(c.chans.length : Int) ≤ (c.chans.length : Int)∧(c.chans.length : Int) ≤ 137438953472)∧(List.replicate c.chans.length ([] : List Int)).length = c.chans.length∧∀ x ∈ (List.replicate c.chans.length ([] : List Int)),cG [.nils] (af x))∧TT 4 (GO (mI c) 0 (∀ i,(mI c).inv i → TT 5 (CD ((i : Int) < (c.procs.length : Int)) (TT 5 (IX (i : Int) c.procs.length∧TT 1 (CC (Jl (c.procs.getD i av))∧ap [[(LI ((aX (c.procs.getD i av)).regs)),(dL 1 af [] ((aX (c.procs.getD i av)).mems))]] ([(⟨(aX (c.procs.getD i av)).regs,(aX (c.procs.getD i av)).mems⟩ : Ps)].map bl)∧((an (fun i => aX (ay c i)) i).length + ([(⟨(aX (c.procs.getD i av)).regs,(aX (c.procs.getD i av)).mems⟩ : Ps)].map bl).length ≤ 137438953472∧(an (fun i => aX (ay c i)) i).map bl ++ [(⟨(aX (c.procs.getD i av)).regs,(aX (c.procs.getD i av)).mems⟩ : Ps)].map bl = (an (fun i => aX (ay c i)) (i + 1)).map bl)∧TT 3 (W6 ((i + 1 : Nat) : Int)∧TT 1 (AG (mI c) i (i + 1)))))) (TT 3 ((an (fun i => aX (ay c i)) i).map bl = ((az c).procs).map bl∧(List.replicate c.chans.length ([] : List Int)).map af = ((az c).chans).map af∧True))))))) (.w 1 [(3,.box 43 1 af [] (List.replicate c.chans.length ([] : List Int)))] <| .g 2 3 0 45 2 bl a7 <| .l (mI c) 0 (fun i => .b 14 (.w 5 [(7,(Jl (c.procs.getD i av)).O),(8,.box 45 2 bl a7 [(⟨(aX (c.procs.getD i av)).regs,(aX (c.procs.getD i av)).mems⟩ : Ps)]),(9,.box 45 2 bl a7 (an (fun i => aX (ay c i)) (i + 1)))] <| .w 4 [(1,.val (i6 ((i + 1 : Nat) : Int)))] <| .e) (.e))) Tryz.func27 rfl rfl rfl (by kernel_rfl) ?_
 refine tt ⟨⟨by omega,by simp,fun x hx => by rw [List.eq_of_mem_replicate hx]; exact ⟨rfl,oK⟩⟩,tt ⟨rfl,(by omega),?_⟩⟩
 intro i hinv
 have hi := hinv
 refine tt (cd (fun hc14 => ?_) (fun hc14 => ?_))
 · have hpk := hc.pr i (by omega)
   refine tt ⟨ix,tt ⟨(BL (c.procs.getD i av) hpk),⟨⟨⟨rfl,rfl,oK⟩,oK⟩,⟨(gW (f := fun i => aX (ay c i)) (by omega)),tt ⟨w6,tt ⟨(i + 1),rfl,(?_ : (i + 1) ≤ c.procs.length),(?_ : c.procs.length - (i + 1) < c.procs.length - i)⟩⟩⟩⟩⟩⟩
   · omega
   · omega
 · refine tt ⟨(congrArg _ (?_ : (an (fun i => aX (ay c i)) i) = ((az c).procs))),(congrArg _ (?_ : (List.replicate c.chans.length ([] : List Int)) = ((az c).chans))),oK⟩
   · rw [show i = c.procs.length by omega]; rfl
   · rfl
abbrev Jq (s : Ns) (n : Int) (l : List Int) : Ct := ⟨60,[(.agg (pK s)),(i6 n),(LI l)],true,(.agg [(dL 2 bl a7 ((gM s n.toNat l).procs)),(dL 1 af [] ((gM s n.toNat l).chans))])⟩
theorem Fl (s : Ns) (n : Int) (l : List Int) (h1 : 0 ≤ n) (h2 : n < s.chans.length) (h3 : s.chans.length ≤ 1000000) : CC (Jq s n l) := by
 refine ak.vc (V := TT 4 (ap [] (([] : List (List Int)).map af)∧TT 2 ((([] : List (List Int)).length + (s.chans.map af).length ≤ 137438953472∧([] : List (List Int)).map af ++ s.chans.map af = s.chans.map af)∧TT 7 (IX n s.chans.length∧(n.toNat < s.chans.length∧(s.chans.map af).set n.toNat ((af (s.chans.getD n.toNat [])).take 0 ++ [(.sl 1 (ah .i64) 0 l)] ++ (af (s.chans.getD n.toNat [])).drop (0 + 1)) = (s.chans.set n.toNat l).map af)∧TT 3 (s.procs.map bl = ((gM s n.toNat l).procs).map bl∧(s.chans.set n.toNat l).map af = ((gM s n.toNat l).chans).map af∧True))))) (.w 1 [(2,.app false 43 1 af [] ([] : List (List Int))),(5,.app false 43 1 af [] s.chans)] <| .w 2 [(5,.box 43 1 af [] (s.chans.set n.toNat l))] <| .e) Tryz.func60 rfl rfl rfl (by kernel_rfl) ?_
 refine tt ⟨oK,tt ⟨⟨by simp only [List.length_map,List.length_cons,List.length_nil,List.length_append,List.length_drop,List.length_take]; first | omega | (simp; first | done | omega),by simp only [List.map_append,List.map_nil,List.append_nil,List.nil_append]⟩,tt ⟨ix,⟨⟨om,by simp only [List.map_set]; rfl⟩,tt ⟨(congrArg _ (?_ : s.procs = ((gM s n.toNat l).procs))),(congrArg _ (?_ : (s.chans.set n.toNat l) = ((gM s n.toNat l).chans))),oK⟩⟩⟩⟩⟩
 all_goals (rfl)
abbrev Jr (c : Ci) (s : Ns) (p : Nat) : Ct := ⟨51,[(.agg (nk c)),(.agg (pK s)),(i6 (p : Int))],true,(.agg [(dL 2 bj aG (cU c s p)),(LB (di c s p))])⟩
abbrev lL (c : Ci) (s : Ns) (p : Nat) : Lp (Nat) := gJ [2,3,4,6,7,8] 5 (fun (i : Nat) => ⟨[(2,(i6 (p : Int))),(3,(.ptr 0 0 0 0)),(4,(.ptr 1 0 0 0)),(6,(.ptr 2 0 0 0)),(7,(.ptr 3 0 0 0)),(8,(i6 (i : Int)))],[(.var 31 (nk c)),(.var 36 (pK s)),(.var 121 [.nils,.nils]),(.var 121 [(.own 4),.nils]),(.arr 68 2 bj aG (an (b8 c s p) i))]⟩) (fun (i : Nat) => i ≤ (c.procs.getD p av).takes.length) (fun (i : Nat) => (c.procs.getD p av).takes.length - i)
abbrev lM (c : Ci) (s : Ns) (p : Nat) (i : Nat) : Lp (Nat) := gJ [2,3,4,6,7,11] 6 (fun (m : Nat) => ⟨[(2,(i6 (p : Int))),(3,(.ptr 0 0 0 0)),(4,(.ptr 1 0 0 0)),(6,(.ptr 2 0 0 0)),(7,(.ptr 3 0 0 0)),(11,(i6 (m : Int)))],[(.var 31 (nk c)),(.var 36 (pK s)),(.var 121 [.nils,.nils]),(.var 121 [(.own 4),(.own 5)]),(.arr 68 2 bj aG (an (b8 c s p) i)),(.arr 4 1 aL false (an (b9 c s p) m))]⟩) (fun (m : Nat) => m ≤ (c.procs.getD p av).puts.length) (fun (m : Nat) => (c.procs.getD p av).puts.length - m)
theorem D1 (c : Ci) (s : Ns) (p : Nat) (hc : bR c) (hs : cT c s) (hp : p < c.procs.length) : CC (Jr c s p) := by
 have hnl := hc.nl
 have hcl := hc.cl
 have hpk : fS (c.procs.getD p av) := hc.pr p hp
 have hl1 := hs.pl
 have hl2 := hs.cl
 have ht1 : (c.procs.getD p av).takes.length ≤ 100 := hpk.tl
 have ht2 : (c.procs.getD p av).puts.length ≤ 100 := hpk.pl
 refine ak.vc (V := TT 7 (GO (lL c s p) 0 (∀ i,(lL c s p).inv i → TT 4 (IX (p : Int) c.procs.length∧TT 4 (CD ((i : Int) < ((((c.procs.getD p av).takes).length : Nat) : Int)) (TT 5 (IX (p : Int) c.procs.length∧TT 3 (IX (i : Int) (((c.procs.getD p av).takes).length)∧TT 2 (IX ((((c.procs.getD p av).takes).getD i bq).chan) s.chans.length∧TT 8 (CD ((((s.chans.getD (((((c.procs.getD p av).takes).getD i bq).chan).toNat) []).length : Nat) : Int) > 0) (TT 1 (IX 0 ((s.chans.getD (((((c.procs.getD p av).takes).getD i bq).chan).toNat) []).length)∧TT 6 (ap [[(dB true),(i6 ((s.chans.getD (((((c.procs.getD p av).takes).getD i bq).chan).toNat) []).getD 0 0))]] ([(⟨true,((s.chans.getD (((((c.procs.getD p av).takes).getD i bq).chan).toNat) []).getD 0 0)⟩ : Hd)].map bj)∧((an (b8 c s p) i).length + ([(⟨true,((s.chans.getD (((((c.procs.getD p av).takes).getD i bq).chan).toNat) []).getD 0 0)⟩ : Hd)].map bj).length ≤ 137438953472∧(an (b8 c s p) i).map bj ++ [(⟨true,((s.chans.getD (((((c.procs.getD p av).takes).getD i bq).chan).toNat) []).getD 0 0)⟩ : Hd)].map bj = (an (b8 c s p) (i + 1)).map bj)∧TT 3 (W6 ((i + 1 : Nat) : Int)∧TT 1 (AG (lL c s p) i (i + 1)))))) (TT 3 (ap [[(dB false),(i6 0)]] ([(⟨false,0⟩ : Hd)].map bj)∧((an (b8 c s p) i).length + ([(⟨false,0⟩ : Hd)].map bj).length ≤ 137438953472∧(an (b8 c s p) i).map bj ++ [(⟨false,0⟩ : Hd)].map bj = (an (b8 c s p) (i + 1)).map bj)∧TT 3 (W6 ((i + 1 : Nat) : Int)∧TT 1 (AG (lL c s p) i (i + 1)))))))))) (TT 1 (GO (lM c s p i) 0 (∀ m,(lM c s p i).inv m → TT 4 (IX (p : Int) c.procs.length∧TT 4 (CD ((m : Int) < ((((c.procs.getD p av).puts).length : Nat) : Int)) (TT 3 (IX (p : Int) c.procs.length∧TT 3 (IX (m : Int) (((c.procs.getD p av).puts).length)∧TT 3 (CS (((c.chans.getD (((((c.procs.getD p av).puts).getD m a5).chan).toNat) be).dst) = (-1)) (TT 5 (IX ((((c.procs.getD p av).puts).getD m a5).chan) c.chans.length∧TT 3 ((True∧(decide (((c.chans.getD (((((c.procs.getD p av).puts).getD m a5).chan).toNat) be).dst) = (-1))) = true)∧TT 1 (ap [[(dB true)]] ([true].map aL)∧((an (b9 c s p) m).length + ([true].map aL).length ≤ 137438953472∧(an (b9 c s p) m).map aL ++ [true].map aL = (an (b9 c s p) (m + 1)).map aL)∧TT 3 (W6 ((m + 1 : Nat) : Int)∧TT 1 (AG (lM c s p i) m (m + 1))))))) (TT 5 (IX ((((c.procs.getD p av).puts).getD m a5).chan) c.chans.length∧TT 3 ((True∧(decide (((c.chans.getD (((((c.procs.getD p av).puts).getD m a5).chan).toNat) be).dst) = (-1))) = false)∧TT 3 (IX ((((c.procs.getD p av).puts).getD m a5).chan) s.chans.length∧TT 5 (IX ((((c.procs.getD p av).puts).getD m a5).chan) c.chans.length∧TT 4 (ap [[(dB (decide ((((s.chans.getD (((((c.procs.getD p av).puts).getD m a5).chan).toNat) []).length : Nat) : Int) < ((c.chans.getD (((((c.procs.getD p av).puts).getD m a5).chan).toNat) be).cap))))]] ([decide ((((s.chans.getD (((((c.procs.getD p av).puts).getD m a5).chan).toNat) []).length : Nat) : Int) < ((c.chans.getD (((((c.procs.getD p av).puts).getD m a5).chan).toNat) be).cap))].map aL)∧((an (b9 c s p) m).length + ([decide ((((s.chans.getD (((((c.procs.getD p av).puts).getD m a5).chan).toNat) []).length : Nat) : Int) < ((c.chans.getD (((((c.procs.getD p av).puts).getD m a5).chan).toNat) be).cap))].map aL).length ≤ 137438953472∧(an (b9 c s p) m).map aL ++ [decide ((((s.chans.getD (((((c.procs.getD p av).puts).getD m a5).chan).toNat) []).length : Nat) : Int) < ((c.chans.getD (((((c.procs.getD p av).puts).getD m a5).chan).toNat) be).cap))].map aL = (an (b9 c s p) (m + 1)).map aL)∧TT 3 (W6 ((m + 1 : Nat) : Int)∧TT 1 (AG (lM c s p i) m (m + 1))))))))))))) (TT 3 ((an (b8 c s p) i).map bj = (cU c s p).map bj∧(an (b9 c s p) m).map aL = (di c s p).map aL∧True)))))))))))) (.g 2 3 0 68 2 bj aG <| .l (lL c s p) 0 (fun i => .b 22 (.b 42 (.w 9 [(3,.box 68 2 bj aG [(⟨true,((s.chans.getD (((((c.procs.getD p av).takes).getD i bq).chan).toNat) []).getD 0 0)⟩ : Hd)]),(4,.box 68 2 bj aG (an (b8 c s p) (i + 1)))] <| .w 4 [(1,.val (i6 ((i + 1 : Nat) : Int)))] <| .e) (.w 9 [(3,.box 68 2 bj aG [(⟨false,0⟩ : Hd)]),(4,.box 68 2 bj aG (an (b8 c s p) (i + 1)))] <| .w 4 [(1,.val (i6 ((i + 1 : Nat) : Int)))] <| .e)) (.g 10 3 1 4 1 aL false <| .l (lM c s p i) 0 (fun m => .b 61 (.s 14 (((c.chans.getD (((((c.procs.getD p av).puts).getD m a5).chan).toNat) be).dst) = (-1)) (.w 14 [(9,.val (dB true)),(24,.box 4 1 aL false [true]),(25,.box 4 1 aL false (an (b9 c s p) (m + 1)))] <| .w 12 [(1,.val (i6 ((m + 1 : Nat) : Int)))] <| .e) (.w 14 [(9,.val (dB false)),(24,.box 4 1 aL false [decide ((((s.chans.getD (((((c.procs.getD p av).puts).getD m a5).chan).toNat) []).length : Nat) : Int) < ((c.chans.getD (((((c.procs.getD p av).puts).getD m a5).chan).toNat) be).cap))]),(25,.box 4 1 aL false (an (b9 c s p) (m + 1)))] <| .w 12 [(1,.val (i6 ((m + 1 : Nat) : Int)))] <| .e)) (.e))))) Tryz.func51 rfl rfl rfl (by kernel_rfl) ?_
 refine tt ⟨rfl,(by omega),?_⟩
 intro i hinv
 have hi := hinv
 refine tt ⟨ix,tt (cd (fun hc22 => ?_) (fun hc22 => ?_))⟩
 · have htk : 0 ≤ ((c.procs.getD p av).takes.getD i bq).chan∧((c.procs.getD p av).takes.getD i bq).chan < c.chans.length := ⟨(hc.tk p hp i (show i < (c.procs.getD p av).takes.length by omega)).1,(hc.tk p hp i (show i < (c.procs.getD p av).takes.length by omega)).2.1⟩
   refine tt ⟨ix,tt ⟨ix,tt ⟨ix,tt (cd (fun hc42 => ?_) (fun hc42 => ?_))⟩⟩⟩
   · refine tt ⟨ix,tt ⟨⟨⟨rfl,rfl,oK⟩,oK⟩,⟨(bx (by omega) (by first | exact (if_pos (show 0 < (s.chans.getD ((c.procs.getD p av).takes.getD i bq).chan.toNat []).length by omega)).symm | exact (if_neg (show ¬0 < (s.chans.getD ((c.procs.getD p av).takes.getD i bq).chan.toNat []).length by omega)).symm)),tt ⟨w6,tt ⟨(i + 1),rfl,(?_ : (i + 1) ≤ (c.procs.getD p av).takes.length),(?_ : (c.procs.getD p av).takes.length - (i + 1) < (c.procs.getD p av).takes.length - i)⟩⟩⟩⟩⟩
     · omega
     · omega
   · refine tt ⟨⟨⟨rfl,rfl,oK⟩,oK⟩,⟨(bx (by omega) (by first | exact (if_pos (show 0 < (s.chans.getD ((c.procs.getD p av).takes.getD i bq).chan.toNat []).length by omega)).symm | exact (if_neg (show ¬0 < (s.chans.getD ((c.procs.getD p av).takes.getD i bq).chan.toNat []).length by omega)).symm)),tt ⟨w6,tt ⟨(i + 1),rfl,(?_ : (i + 1) ≤ (c.procs.getD p av).takes.length),(?_ : (c.procs.getD p av).takes.length - (i + 1) < (c.procs.getD p av).takes.length - i)⟩⟩⟩⟩
     · omega
     · omega
 · refine tt ⟨rfl,(by omega),?_⟩
   intro m hinv
   have hm := hinv
   refine tt ⟨ix,tt (cd (fun hc61 => ?_) (fun hc61 => ?_))⟩
   · have hpt : 0 ≤ ((c.procs.getD p av).puts.getD m a5).chan∧((c.procs.getD p av).puts.getD m a5).chan < c.chans.length := ⟨(hc.pt p hp m (show m < (c.procs.getD p av).puts.length by omega)).1,(hc.pt p hp m (show m < (c.procs.getD p av).puts.length by omega)).2.1⟩
     refine tt ⟨ix,tt ⟨ix,tt ⟨fun hs0 => ?_,fun hs0 => ?_⟩⟩⟩
     · refine tt ⟨ix,tt ⟨(vT hs0),tt ⟨⟨⟨rfl,oK⟩,oK⟩,⟨(bx (by omega) (by first | exact (vM hs0).symm | exact (lA hs0).symm | exact (lA hs1).symm)),tt ⟨w6,tt ⟨(m + 1),rfl,(?_ : (m + 1) ≤ (c.procs.getD p av).puts.length),(?_ : (c.procs.getD p av).puts.length - (m + 1) < (c.procs.getD p av).puts.length - m)⟩⟩⟩⟩⟩⟩
       · omega
       · omega
     · refine tt ⟨ix,tt ⟨(vF hs0),tt ⟨ix,tt ⟨ix,tt ⟨⟨⟨rfl,oK⟩,oK⟩,⟨(bx (by omega) (by first | exact (vM hs0).symm | exact (lA hs0).symm | exact (lA hs1).symm)),tt ⟨w6,tt ⟨(m + 1),rfl,(?_ : (m + 1) ≤ (c.procs.getD p av).puts.length),(?_ : (c.procs.getD p av).puts.length - (m + 1) < (c.procs.getD p av).puts.length - m)⟩⟩⟩⟩⟩⟩⟩⟩
       · omega
       · omega
   · refine tt ⟨(congrArg _ (?_ : (an (b8 c s p) i) = (cU c s p))),(congrArg _ (?_ : (an (b9 c s p) m) = (di c s p))),oK⟩
     · rw [show i = (c.procs.getD p av).takes.length by omega]; rfl
     · rw [show m = (c.procs.getD p av).puts.length by omega]; rfl
abbrev Fm (c : Ci) (s : Ns) (p : Nat) : Ct := ⟨15,[(.agg (nk c)),(.agg (pK s)),(i6 (p : Int))],true,(.agg [(dB ((ab c s p).fires)),(LI (((ab c s p).s).regs)),(dL 1 af [] (((ab c s p).s).mems)),(LB ((ab c s p).pops)),(dL 2 bj aG ((ab c s p).puts))])⟩
theorem mJ (c : Ci) (s : Ns) (p : Nat) (hc : bR c) (hs : cT c s) (hp : p < c.procs.length) : CC (Fm c s p) := by
 have hnl := hc.nl
 have hcl := hc.cl
 have hpk : fS (c.procs.getD p av) := hc.pr p hp
 have hl1 := hs.pl
 have hl2 := hs.cl
 have ht1 : (c.procs.getD p av).takes.length ≤ 100 := hpk.tl
 have ht2 : (c.procs.getD p av).puts.length ≤ 100 := hpk.pl
 refine ak.vc (V := TT 6 (IX (p : Int) c.procs.length∧TT 4 (IX (p : Int) s.procs.length∧TT 4 (CC (Jr c s p)∧CC (Jo (c.procs.getD p av) (s.procs.getD p a7) (cU c s p) (di c s p))∧TT 2 (((aV (c.procs.getD p av) (s.procs.getD p a7) (cU c s p) (di c s p)).fires) = ((ab c s p).fires)∧(((aV (c.procs.getD p av) (s.procs.getD p a7) (cU c s p) (di c s p)).s).regs).map (ah .i64) = (((ab c s p).s).regs).map (ah .i64)∧(((aV (c.procs.getD p av) (s.procs.getD p a7) (cU c s p) (di c s p)).s).mems).map af = (((ab c s p).s).mems).map af∧((aV (c.procs.getD p av) (s.procs.getD p a7) (cU c s p) (di c s p)).pops).map aL = ((ab c s p).pops).map aL∧((aV (c.procs.getD p av) (s.procs.getD p a7) (cU c s p) (di c s p)).puts).map bj = ((ab c s p).puts).map bj∧True))))) (.w 1 [(13,(Jr c s p).O),(14,(Jo (c.procs.getD p av) (s.procs.getD p a7) (cU c s p) (di c s p)).O)] <| .e) Tryz.func15 rfl rfl rfl (by kernel_rfl) ?_
 refine tt ⟨ix,tt ⟨ix,tt ⟨(D1 c s p hc hs hp),⟨(BM (c.procs.getD p av) (s.procs.getD p a7) (cU c s p) (di c s p) hpk (hs.pv p hp) (px hc hs hp) (by rw [di,aM])),tt ⟨?_,(congrArg _ (?_ : (((aV (c.procs.getD p av) (s.procs.getD p a7) (cU c s p) (di c s p)).s).regs) = (((ab c s p).s).regs))),(congrArg _ (?_ : (((aV (c.procs.getD p av) (s.procs.getD p a7) (cU c s p) (di c s p)).s).mems) = (((ab c s p).s).mems))),(congrArg _ (?_ : ((aV (c.procs.getD p av) (s.procs.getD p a7) (cU c s p) (di c s p)).pops) = ((ab c s p).pops))),(congrArg _ (?_ : ((aV (c.procs.getD p av) (s.procs.getD p a7) (cU c s p) (di c s p)).puts) = ((ab c s p).puts))),oK⟩⟩⟩⟩⟩
 all_goals (rfl)
abbrev Js (c : Ci) (s : Ns) (p : Int) : Ct := ⟨34,[(.agg (nk c)),(.agg (pK s)),(i6 p)],false,(dB (dj c s p))⟩
theorem Fo (c : Ci) (s : Ns) (p : Int) (hc : bR c) (hs : cT c s) : CC (Js c s p) := by
 have hnl := hc.nl
 have hcl := hc.cl
 refine ak.vc (V := TT 3 (CS (p ≥ 0) (CS (p < (c.procs.length : Int)) (TT 2 ((True∧(decide (p ≥ 0)) = true)∧TT 6 ((True∧(decide (p < (c.procs.length : Int))) = true)∧TT 2 ((True∧p = (p.toNat : Int))∧CC (Fm c s p.toNat)∧TT 4 (((ab c s p.toNat).fires) = (dj c s p)∧True))))) (TT 2 ((True∧(decide (p ≥ 0)) = true)∧TT 6 ((True∧(decide (p < (c.procs.length : Int))) = false)∧TT 8 (false = (dj c s p)∧True))))) (TT 2 ((True∧(decide (p ≥ 0)) = false)∧TT 15 (false = (dj c s p)∧True))))) (.s 1 (p ≥ 0) (.s 1 (p < (c.procs.length : Int)) (.w 1 [(2,.val (dB true)),(9,.val (dB true)),(12,.val (i6 (p.toNat : Int))),(13,(Fm c s p.toNat).O)] <| .e) (.w 1 [(2,.val (dB true)),(9,.val (dB false))] <| .e)) (.w 1 [(2,.val (dB false))] <| .e)) Tryz.func34 rfl rfl rfl (by kernel_rfl) ?_
 refine tt ⟨fun hs0 => ?_,fun hs0 => ?_⟩
 · refine ⟨fun hs1 => ?_,fun hs1 => ?_⟩
   · refine tt ⟨(vT hs0),tt ⟨(vT hs1),tt ⟨⟨oK,(by omega)⟩,⟨(mJ c s p.toNat hc hs (by omega)),tt ⟨?_,oK⟩⟩⟩⟩⟩
     first | exact (jB (by omega)).symm | exact (jC (by omega)).symm | exact (km (by omega) (by omega)).symm
   · refine tt ⟨(vT hs0),tt ⟨(vF hs1),tt ⟨?_,oK⟩⟩⟩
     first | exact (jB (by omega)).symm | exact (jC (by omega)).symm | exact (km (by omega) (by omega)).symm
 · refine tt ⟨(vF hs0),tt ⟨?_,oK⟩⟩
   first | exact (jB (by omega)).symm | exact (jC (by omega)).symm | exact (km (by omega) (by omega)).symm
abbrev GL (a b : List Bool) : Ct := ⟨37,[(LB a),(LB b)],false,(dB (decide (a = b)))⟩
abbrev pL (a : List Bool) (b : List Bool) : Lp (Nat) := gJ [0,1,5] 0 (fun (k : Nat) => ⟨[(0,(LB a)),(1,(LB b)),(5,(i6 (k : Int)))],[]⟩) (fun (k : Nat) => k ≤ a.length∧∀ z,z < k → a.getD z false = b.getD z false) (fun (k : Nat) => a.length - k)
theorem ta (a b : List Bool) (ha : a.length ≤ 9223372036854775807) : CC (GL a b) := by
 refine ak.vc (V := TT 6 (CN ((a.length : Int) = (b.length : Int)) (TT 2 (false = (decide (a = b))∧True)) (TT 1 (GO (pL a b) 0 (∀ k,(pL a b).inv k → TT 4 (CD ((k : Int) < (a.length : Int)) (TT 2 (IX (k : Int) a.length∧TT 3 (IX (k : Int) b.length∧TT 2 (CB (!((a.getD k false) == (b.getD k false))) (TT 2 (false = (decide (a = b))∧True)) (TT 1 (W6 ((k + 1 : Nat) : Int)∧TT 1 (AG (pL a b) k (k + 1)))))))) (TT 2 (true = (decide (a = b))∧True)))))))) (.b 10 (.e) (.l (pL a b) 0 (fun k => .b 14 (.b 25 (.e) (.w 5 [(1,.val (i6 ((k + 1 : Nat) : Int)))] <| .e)) (.e)))) Tryz.func37 rfl rfl rfl (by kernel_rfl) ?_
 refine tt (cn (fun hc10 => ?_) (fun hc10 => ?_))
 · refine tt ⟨?_,oK⟩
   first | exact (decide_eq_false (fun e => by subst e; omega)).symm | exact (decide_eq_false (fun e => by rw [e] at hc25; simp at hc25)).symm | exact (decide_eq_true (dK (by omega) (by omega) hall)).symm
 · refine tt ⟨rfl,⟨by omega,fun z hz => by omega⟩,?_⟩
   intro k hinv
   obtain ⟨hk,hall⟩ := hinv
   refine tt (cd (fun hc14 => ?_) (fun hc14 => ?_))
   · refine tt ⟨ix,tt ⟨ix,tt ⟨fun hc25 => ?_,fun hc25 => ?_⟩⟩⟩
     · refine tt ⟨?_,oK⟩
       first | exact (decide_eq_false (fun e => by subst e; omega)).symm | exact (decide_eq_false (fun e => by rw [e] at hc25; simp at hc25)).symm | exact (decide_eq_true (dK (by omega) (by omega) hall)).symm
     · refine tt ⟨w6,tt ⟨(k + 1),rfl,?_,(?_ : a.length - (k + 1) < a.length - k)⟩⟩
       · exact ⟨by omega,ce hall (by simpa using hc25)⟩
       · omega
   · refine tt ⟨?_,oK⟩
     first | exact (decide_eq_false (fun e => by subst e; omega)).symm | exact (decide_eq_false (fun e => by rw [e] at hc25; simp at hc25)).symm | exact (decide_eq_true (dK (by omega) (by omega) hall)).symm
end Go.Proofs.YtifoecfajmnjjaaGreat
