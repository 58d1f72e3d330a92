/-
  The reference of package network: states, words, single processes.
-/
import Derived.Test.YtifoecfajmnjjaaGreatQNeJ
import Derived.Test.YtifoecfajmnjjaaGreatQNeK
import Derived.Test.YtifoecfajmnjjaaGreatQPrD
namespace Go.Proofs.YtifoecfajmnjjaaGreat
open Go.RowKit
set_option linter.unusedVariables false
set_option linter.unusedSimpArgs false
abbrev jg (s : Ns) : List D := [(dL 2 a8 a7 s.procs),(dL 1 af [] s.chans)]
abbrev jh (c : Ci) : List D := [(dL 6 eV av c.procs),(dL 5 iT aX c.chans)]
set_option maxRecDepth 100000
abbrev Fb (l : List Int) (w : Int) : Ct := ⟨55,[(LI l),(i6 w)],false,(dB (b6 l w))⟩
abbrev kD (l : List Int) (w : Int) : Lp (Nat) := fC [0,1,5] 0 (fun (i : Nat) => ⟨[(0,(LI l)),(1,(i6 w)),(5,(i6 (i : Int)))],[]⟩) (fun (i : Nat) => i ≤ l.length∧∀ z,z < i → cj (l.getD z 0) w = true) (fun (i : Nat) => l.length - i)
theorem iP (l : List Int) (w : Int) (hl : l.length ≤ 9223372036854775807) : CC (Fb l w) := by
 refine ai.vc (V := TT 2 (GO (kD l w) 0 (∀ i,(kD l w).inv i → TT 4 (CD ((i : Int) < (l.length : Int)) (CS ((l.getD i 0) < 0) (TT 2 (IX (i : Int) l.length∧TT 2 ((True∧(decide ((l.getD i 0) < 0)) = true)∧TT 3 (false = (b6 l w)∧True)))) (TT 2 (IX (i : Int) l.length∧TT 2 ((True∧(decide ((l.getD i 0) < 0)) = false)∧TT 2 (IX (i : Int) l.length∧TT 2 (CC (Ai w)∧TT 2 (CD ((l.getD i 0) > (aj w)) (TT 2 (false = (b6 l w)∧True)) (TT 1 (W6 ((i + 1 : Nat) : Int)∧TT 1 (AG (kD l w) i (i + 1))))))))))) (TT 2 (true = (b6 l w)∧True)))))) (.l (kD l w) 0 (fun i => .b 9 (.s 4 ((l.getD i 0) < 0) (.w 4 [(5,.val (dB true))] <| .e) (.w 4 [(5,.val (dB false)),(11,(Ai w).O)] <| .b 25 (.e) (.w 3 [(1,.val (i6 ((i + 1 : Nat) : Int)))] <| .e))) (.e))) Tryz.func55 rfl rfl rfl (by kernel_rfl) ?_
 refine tt ⟨rfl,⟨by omega,fun z hz => by omega⟩,?_⟩
 intro i hinv
 obtain ⟨hi,h3⟩ := hinv
 refine tt (cd (fun hc9 => ?_) (fun hc9 => ?_))
 · refine ⟨fun hs0 => ?_,fun hs0 => ?_⟩
   · refine tt ⟨ix,tt ⟨(vT hs0),tt ⟨?_,oK⟩⟩⟩
     first | exact (mJ (i := i) (by omega) (wS hs0)).symm | exact (mJ (i := i) (by omega) (wT hc25)).symm | exact (tE (fun z hz => h3 z (by omega))).symm
   · refine tt ⟨ix,tt ⟨(vF hs0),tt ⟨ix,tt ⟨(iM w),tt (cd (fun hc25 => ?_) (fun hc25 => ?_))⟩⟩⟩⟩
     · refine tt ⟨?_,oK⟩
       first | exact (mJ (i := i) (by omega) (wS hs0)).symm | exact (mJ (i := i) (by omega) (wT hc25)).symm | exact (tE (fun z hz => h3 z (by omega))).symm
     · refine tt ⟨w6,tt ⟨(i + 1),rfl,?_,(?_ : l.length - (i + 1) < l.length - i)⟩⟩
       · exact ⟨by omega,bZ h3 (Gg hs0 hc25)⟩
       · omega
 · refine tt ⟨?_,oK⟩
   first | exact (mJ (i := i) (by omega) (wS hs0)).symm | exact (mJ (i := i) (by omega) (wT hc25)).symm | exact (tE (fun z hz => h3 z (by omega))).symm
abbrev wW (c : Ci) (s : Ns) : Ct := ⟨20,[(.agg (jh c)),(.agg (jg s))],false,(dB (aV c s))⟩
abbrev kE (c : Ci) (s : Ns) : Lp (Nat) := fC [2,3,5] 2 (fun (i : Nat) => ⟨[(2,(.ptr 0 0 0 0)),(3,(.ptr 1 0 0 0)),(5,(i6 (i : Int)))],[(.var 31 (jh c)),(.var 36 (jg s))]⟩) (fun (i : Nat) => i ≤ c.procs.length∧∀ z,z < i → br (bR c z) (zL s z) = true) (fun (i : Nat) => c.procs.length - i)
abbrev fW (c : Ci) (s : Ns) : Lp (Nat) := fC [2,3,6] 2 (fun (n : Nat) => ⟨[(2,(.ptr 0 0 0 0)),(3,(.ptr 1 0 0 0)),(6,(i6 (n : Int)))],[(.var 31 (jh c)),(.var 36 (jg s))]⟩) (fun (n : Nat) => n ≤ c.chans.length∧∀ z,z < n → gJ c s z = true) (fun (n : Nat) => c.chans.length - n)
theorem dz (c : Ci) (s : Ns) (hc : bK c) (hsm : fD s 9223372036854775807) : CC (wW c s) := by
 have hnl := hc.nl
 have hcl := hc.cl
 refine ai.vc (V := TT 3 (CS ((s.procs.length : Int) = (c.procs.length : Int)) (TT 7 ((True∧(!decide ((s.procs.length : Int) = (c.procs.length : Int))) = false)∧TT 8 (CN ((s.chans.length : Int) = (c.chans.length : Int)) (TT 2 (false = (aV c s)∧True)) (TT 1 (GO (kE c s) 0 (∀ i,(kE c s).inv i → TT 5 (CD ((i : Int) < (c.procs.length : Int)) (TT 3 (IX (i : Int) c.procs.length∧TT 4 (IX (i : Int) s.procs.length∧TT 1 (CC (KI (c.procs.getD i av) (s.procs.getD i a7))∧TT 1 (CB (!(br (c.procs.getD i av) (s.procs.getD i a7))) (TT 2 (false = (aV c s)∧True)) (TT 1 (W6 ((i + 1 : Nat) : Int)∧TT 1 (AG (kE c s) i (i + 1))))))))) (TT 1 (GO (fW c s) 0 (∀ n,(fW c s).inv n → TT 5 (CD ((n : Int) < (c.chans.length : Int)) (TT 3 (IX (n : Int) c.chans.length∧TT 3 (CS ((b6 (s.chans.getD n []) ((c.chans.getD n aX).w)) = true) (CS (((c.chans.getD n aX).frm) ≥ 0) (CS (((c.chans.getD n aX).dst) ≥ 0) (TT 3 (IX (n : Int) s.chans.length∧TT 3 (CC (Fb (s.chans.getD n []) ((c.chans.getD n aX).w))∧TT 1 ((True∧(!(b6 (s.chans.getD n []) ((c.chans.getD n aX).w))) = false)∧TT 3 ((True∧(decide (((c.chans.getD n aX).frm) ≥ 0)) = true)∧TT 4 ((True∧(decide (((c.chans.getD n aX).dst) ≥ 0)) = true)∧TT 3 (IX (n : Int) s.chans.length∧TT 7 (CD ((((s.chans.getD n []).length : Nat) : Int) > ((c.chans.getD n aX).cap)) (TT 2 (false = (aV c s)∧True)) (TT 1 (W6 ((n + 1 : Nat) : Int)∧TT 1 (AG (fW c s) n (n + 1)))))))))))) (TT 3 (IX (n : Int) s.chans.length∧TT 3 (CC (Fb (s.chans.getD n []) ((c.chans.getD n aX).w))∧TT 1 ((True∧(!(b6 (s.chans.getD n []) ((c.chans.getD n aX).w))) = false)∧TT 3 ((True∧(decide (((c.chans.getD n aX).frm) ≥ 0)) = true)∧TT 4 ((True∧(decide (((c.chans.getD n aX).dst) ≥ 0)) = false)∧TT 3 (W6 ((n + 1 : Nat) : Int)∧TT 1 (AG (fW c s) n (n + 1)))))))))) (TT 3 (IX (n : Int) s.chans.length∧TT 3 (CC (Fb (s.chans.getD n []) ((c.chans.getD n aX).w))∧TT 1 ((True∧(!(b6 (s.chans.getD n []) ((c.chans.getD n aX).w))) = false)∧TT 3 ((True∧(decide (((c.chans.getD n aX).frm) ≥ 0)) = false)∧TT 5 (W6 ((n + 1 : Nat) : Int)∧TT 1 (AG (fW c s) n (n + 1))))))))) (TT 3 (IX (n : Int) s.chans.length∧TT 3 (CC (Fb (s.chans.getD n []) ((c.chans.getD n aX).w))∧TT 1 ((True∧(!(b6 (s.chans.getD n []) ((c.chans.getD n aX).w))) = true)∧TT 3 (false = (aV c s)∧True)))))))) (TT 2 (true = (aV c s)∧True))))))))))))) (TT 7 ((True∧(!decide ((s.procs.length : Int) = (c.procs.length : Int))) = true)∧TT 10 (false = (aV c s)∧True))))) (.s 1 ((s.procs.length : Int) = (c.procs.length : Int)) (.w 1 [(7,.val (dB false))] <| .b 23 (.e) (.l (kE c s) 0 (fun i => .b 28 (.w 6 [(10,(KI (c.procs.getD i av) (s.procs.getD i a7)).O)] <| .b 42 (.e) (.w 5 [(1,.val (i6 ((i + 1 : Nat) : Int)))] <| .e)) (.l (fW c s) 0 (fun n => .b 47 (.s 12 ((b6 (s.chans.getD n []) ((c.chans.getD n aX).w)) = true) (.s 12 (((c.chans.getD n aX).frm) ≥ 0) (.s 12 (((c.chans.getD n aX).dst) ≥ 0) (.w 12 [(7,(Fb (s.chans.getD n []) ((c.chans.getD n aX).w)).O),(9,.val (dB false)),(13,.val (dB true)),(18,.val (dB true))] <| .b 84 (.e) (.w 10 [(1,.val (i6 ((n + 1 : Nat) : Int)))] <| .e)) (.w 12 [(7,(Fb (s.chans.getD n []) ((c.chans.getD n aX).w)).O),(9,.val (dB false)),(13,.val (dB true)),(18,.val (dB false))] <| .w 10 [(1,.val (i6 ((n + 1 : Nat) : Int)))] <| .e)) (.w 12 [(7,(Fb (s.chans.getD n []) ((c.chans.getD n aX).w)).O),(9,.val (dB false)),(13,.val (dB false))] <| .w 10 [(1,.val (i6 ((n + 1 : Nat) : Int)))] <| .e)) (.w 12 [(7,(Fb (s.chans.getD n []) ((c.chans.getD n aX).w)).O),(9,.val (dB true))] <| .e)) (.e)))))) (.w 1 [(7,.val (dB true))] <| .e)) Tryz.func20 rfl rfl rfl (by kernel_rfl) ?_
 refine tt ⟨fun hs0 => ?_,fun hs0 => ?_⟩
 · refine tt ⟨(nF hs0),tt (cn (fun hc23 => ?_) (fun hc23 => ?_))⟩
   · refine tt ⟨?_,oK⟩
     first | exact (fP (by omega)).symm | exact (fQ (by omega)).symm | exact (fR (i := i) (by omega) (by simpa using hc42)).symm | exact (ck (n := n) (by omega) (dj (by assumption))).symm | exact (ck (n := n) (by omega) (dk (by show 0 ≤ (c.chans.getD n aX).frm; omega) (by show 0 ≤ (c.chans.getD n aX).dst; omega) (by show ¬((s.chans.getD n []).length : Int) ≤ (c.chans.getD n aX).cap; omega))).symm | exact (fS (by omega) (by omega) (fun z hz => h3 z (by omega)) (fun z hz => h4 z (by omega))).symm
   · refine tt ⟨rfl,⟨by omega,fun z hz => by omega⟩,?_⟩
     intro i hinv
     obtain ⟨hi,h3⟩ := hinv
     refine tt (cd (fun hc28 => ?_) (fun hc28 => ?_))
     · have hpk := hc.pr i (by omega)
       refine tt ⟨ix,tt ⟨ix,tt ⟨(CY (c.procs.getD i av) (s.procs.getD i a7) hpk),tt ⟨fun hc42 => ?_,fun hc42 => ?_⟩⟩⟩⟩
       · refine tt ⟨?_,oK⟩
         first | exact (fP (by omega)).symm | exact (fQ (by omega)).symm | exact (fR (i := i) (by omega) (by simpa using hc42)).symm | exact (ck (n := n) (by omega) (dj (by assumption))).symm | exact (ck (n := n) (by omega) (dk (by show 0 ≤ (c.chans.getD n aX).frm; omega) (by show 0 ≤ (c.chans.getD n aX).dst; omega) (by show ¬((s.chans.getD n []).length : Int) ≤ (c.chans.getD n aX).cap; omega))).symm | exact (fS (by omega) (by omega) (fun z hz => h3 z (by omega)) (fun z hz => h4 z (by omega))).symm
       · refine tt ⟨w6,tt ⟨(i + 1),rfl,?_,(?_ : c.procs.length - (i + 1) < c.procs.length - i)⟩⟩
         · exact ⟨by omega,bZ h3 (by simpa using hc42)⟩
         · omega
     · refine tt ⟨rfl,⟨by omega,fun z hz => by omega⟩,?_⟩
       intro n hinv
       obtain ⟨hn,h4⟩ := hinv
       refine tt (cd (fun hc47 => ?_) (fun hc47 => ?_))
       · refine tt ⟨ix,tt ?_⟩
         have hlw : (s.chans.getD n []).length ≤ 9223372036854775807 := hsm n
         refine ⟨fun hs1 => ?_,fun hs1 => ?_⟩
         · refine ⟨fun hs2 => ?_,fun hs2 => ?_⟩
           · refine ⟨fun hs3 => ?_,fun hs3 => ?_⟩
             · refine tt ⟨ix,tt ⟨(iP (s.chans.getD n []) ((c.chans.getD n aX).w) hlw),tt ⟨(mF hs1),tt ⟨(vT hs2),tt ⟨(vT hs3),tt ⟨ix,tt (cd (fun hc84 => ?_) (fun hc84 => ?_))⟩⟩⟩⟩⟩⟩
               · refine tt ⟨?_,oK⟩
                 first | exact (fP (by omega)).symm | exact (fQ (by omega)).symm | exact (fR (i := i) (by omega) (by simpa using hc42)).symm | exact (ck (n := n) (by omega) (dj (by assumption))).symm | exact (ck (n := n) (by omega) (dk (by show 0 ≤ (c.chans.getD n aX).frm; omega) (by show 0 ≤ (c.chans.getD n aX).dst; omega) (by show ¬((s.chans.getD n []).length : Int) ≤ (c.chans.getD n aX).cap; omega))).symm | exact (fS (by omega) (by omega) (fun z hz => h3 z (by omega)) (fun z hz => h4 z (by omega))).symm
               · refine tt ⟨w6,tt ⟨(n + 1),rfl,?_,(?_ : c.chans.length - (n + 1) < c.chans.length - n)⟩⟩
                 · refine ⟨by omega,bZ h4 ?_⟩
                   first | exact qT (by assumption) (by show ¬0 ≤ (c.chans.getD n aX).frm; omega) | exact qU (by assumption) (by show ¬0 ≤ (c.chans.getD n aX).dst; omega) | exact qV (by assumption) (by show ((s.chans.getD n []).length : Int) ≤ (c.chans.getD n aX).cap; omega)
                 · omega
             · refine tt ⟨ix,tt ⟨(iP (s.chans.getD n []) ((c.chans.getD n aX).w) hlw),tt ⟨(mF hs1),tt ⟨(vT hs2),tt ⟨(vF hs3),tt ⟨w6,tt ⟨(n + 1),rfl,?_,(?_ : c.chans.length - (n + 1) < c.chans.length - n)⟩⟩⟩⟩⟩⟩⟩
               · refine ⟨by omega,bZ h4 ?_⟩
                 first | exact qT (by assumption) (by show ¬0 ≤ (c.chans.getD n aX).frm; omega) | exact qU (by assumption) (by show ¬0 ≤ (c.chans.getD n aX).dst; omega) | exact qV (by assumption) (by show ((s.chans.getD n []).length : Int) ≤ (c.chans.getD n aX).cap; omega)
               · omega
           · refine tt ⟨ix,tt ⟨(iP (s.chans.getD n []) ((c.chans.getD n aX).w) hlw),tt ⟨(mF hs1),tt ⟨(vF hs2),tt ⟨w6,tt ⟨(n + 1),rfl,?_,(?_ : c.chans.length - (n + 1) < c.chans.length - n)⟩⟩⟩⟩⟩⟩
             · refine ⟨by omega,bZ h4 ?_⟩
               first | exact qT (by assumption) (by show ¬0 ≤ (c.chans.getD n aX).frm; omega) | exact qU (by assumption) (by show ¬0 ≤ (c.chans.getD n aX).dst; omega) | exact qV (by assumption) (by show ((s.chans.getD n []).length : Int) ≤ (c.chans.getD n aX).cap; omega)
             · omega
         · refine tt ⟨ix,tt ⟨(iP (s.chans.getD n []) ((c.chans.getD n aX).w) hlw),tt ⟨(mT hs1),tt ⟨?_,oK⟩⟩⟩⟩
           first | exact (fP (by omega)).symm | exact (fQ (by omega)).symm | exact (fR (i := i) (by omega) (by simpa using hc42)).symm | exact (ck (n := n) (by omega) (dj (by assumption))).symm | exact (ck (n := n) (by omega) (dk (by show 0 ≤ (c.chans.getD n aX).frm; omega) (by show 0 ≤ (c.chans.getD n aX).dst; omega) (by show ¬((s.chans.getD n []).length : Int) ≤ (c.chans.getD n aX).cap; omega))).symm | exact (fS (by omega) (by omega) (fun z hz => h3 z (by omega)) (fun z hz => h4 z (by omega))).symm
       · refine tt ⟨?_,oK⟩
         first | exact (fP (by omega)).symm | exact (fQ (by omega)).symm | exact (fR (i := i) (by omega) (by simpa using hc42)).symm | exact (ck (n := n) (by omega) (dj (by assumption))).symm | exact (ck (n := n) (by omega) (dk (by show 0 ≤ (c.chans.getD n aX).frm; omega) (by show 0 ≤ (c.chans.getD n aX).dst; omega) (by show ¬((s.chans.getD n []).length : Int) ≤ (c.chans.getD n aX).cap; omega))).symm | exact (fS (by omega) (by omega) (fun z hz => h3 z (by omega)) (fun z hz => h4 z (by omega))).symm
 · refine tt ⟨(nT hs0),tt ⟨?_,oK⟩⟩
   first | exact (fP (by omega)).symm | exact (fQ (by omega)).symm | exact (fR (i := i) (by omega) (by simpa using hc42)).symm | exact (ck (n := n) (by omega) (dj (by assumption))).symm | exact (ck (n := n) (by omega) (dk (by show 0 ≤ (c.chans.getD n aX).frm; omega) (by show 0 ≤ (c.chans.getD n aX).dst; omega) (by show ¬((s.chans.getD n []).length : Int) ≤ (c.chans.getD n aX).cap; omega))).symm | exact (fS (by omega) (by omega) (fun z hz => h3 z (by omega)) (fun z hz => h4 z (by omega))).symm
abbrev H0 (c : Ci) : Ct := ⟨27,[(.agg (jh c))],true,(.agg [(dL 2 a8 a7 ((ao c).procs)),(dL 1 af [] ((ao c).chans))])⟩
abbrev mS (c : Ci) : Lp (Nat) := fC [1,2,3,4] 5 (fun (i : Nat) => ⟨[(1,(.ptr 0 0 0 0)),(2,(.ptr 1 0 0 0)),(3,(.ptr 3 0 0 0)),(4,(i6 (i : Int)))],[(.var 31 (jh c)),(.var 36 [.nils,.nils]),(.arr 43 1 af [] (List.replicate c.chans.length ([] : List Int))),(.var 36 [(.own 4),(.own 2)]),(.arr 45 2 a8 a7 (aq (fun i => aY (bR c i)) i))]⟩) (fun (i : Nat) => i ≤ c.procs.length) (fun (i : Nat) => c.procs.length - i)
theorem rg (c : Ci) (hc : bK c) : CC (H0 c) := by
 have hnl := hc.nl
 have hcl := hc.cl
 refine ai.vc (V := TT 5 ((((0 : Int) ≤ (c.chans.length : Int)∧(c.chans.length : Int) ≤ (c.chans.length : Int)∧(c.chans.length : Int) ≤ 137438953472)∧(List.replicate c.chans.length ([] : List Int)).length = c.chans.length∧∀ x ∈ (List.replicate c.chans.length ([] : List Int)),cz [.nils] (af x))∧TT 4 (GO (mS c) 0 (∀ i,(mS c).inv i → TT 5 (CD ((i : Int) < (c.procs.length : Int)) (TT 5 (IX (i : Int) c.procs.length∧TT 1 (CC (KJ (c.procs.getD i av))∧ap [[(LI ((aY (c.procs.getD i av)).regs)),(dL 1 af [] ((aY (c.procs.getD i av)).mems))]] ([(⟨(aY (c.procs.getD i av)).regs,(aY (c.procs.getD i av)).mems⟩ : Ps)].map a8)∧((aq (fun i => aY (bR c i)) i).length + ([(⟨(aY (c.procs.getD i av)).regs,(aY (c.procs.getD i av)).mems⟩ : Ps)].map a8).length ≤ 137438953472∧(aq (fun i => aY (bR c i)) i).map a8 ++ [(⟨(aY (c.procs.getD i av)).regs,(aY (c.procs.getD i av)).mems⟩ : Ps)].map a8 = (aq (fun i => aY (bR c i)) (i + 1)).map a8)∧TT 3 (W6 ((i + 1 : Nat) : Int)∧TT 1 (AG (mS c) i (i + 1)))))) (TT 3 ((aq (fun i => aY (bR c i)) i).map a8 = ((ao c).procs).map a8∧(List.replicate c.chans.length ([] : List Int)).map af = ((ao c).chans).map af∧True))))))) (.w 1 [(3,.box 43 1 af [] (List.replicate c.chans.length ([] : List Int)))] <| .g 2 3 0 45 2 a8 a7 <| .l (mS c) 0 (fun i => .b 14 (.w 5 [(7,(KJ (c.procs.getD i av)).O),(8,.box 45 2 a8 a7 [(⟨(aY (c.procs.getD i av)).regs,(aY (c.procs.getD i av)).mems⟩ : Ps)]),(9,.box 45 2 a8 a7 (aq (fun i => aY (bR c i)) (i + 1)))] <| .w 4 [(1,.val (i6 ((i + 1 : Nat) : Int)))] <| .e) (.e))) Tryz.func27 rfl rfl rfl (by kernel_rfl) ?_
 refine tt ⟨⟨by omega,by simp,fun x hx => by rw [List.eq_of_mem_replicate hx]; exact ⟨rfl,oK⟩⟩,tt ⟨rfl,(by omega),?_⟩⟩
 intro i hinv
 have hi := hinv
 refine tt (cd (fun hc14 => ?_) (fun hc14 => ?_))
 · have hpk := hc.pr i (by omega)
   refine tt ⟨ix,tt ⟨(CZ (c.procs.getD i av) hpk),⟨⟨⟨rfl,rfl,oK⟩,oK⟩,⟨(f8 (f := fun i => aY (bR c i)) (by omega)),tt ⟨w6,tt ⟨(i + 1),rfl,(?_ : (i + 1) ≤ c.procs.length),(?_ : c.procs.length - (i + 1) < c.procs.length - i)⟩⟩⟩⟩⟩⟩
   · omega
   · omega
 · refine tt ⟨(congrArg _ (?_ : (aq (fun i => aY (bR c i)) i) = ((ao c).procs))),(congrArg _ (?_ : (List.replicate c.chans.length ([] : List Int)) = ((ao c).chans))),oK⟩
   · rw [show i = c.procs.length by omega]; rfl
   · rfl
abbrev G0 (s : Ns) (n : Int) (l : List Int) : Ct := ⟨60,[(.agg (jg s)),(i6 n),(LI l)],true,(.agg [(dL 2 a8 a7 ((dp s n.toNat l).procs)),(dL 1 af [] ((dp s n.toNat l).chans))])⟩
theorem wX (s : Ns) (n : Int) (l : List Int) (h1 : 0 ≤ n) (h2 : n < s.chans.length) (h3 : s.chans.length ≤ 1000000) : CC (G0 s n l) := by
 refine ai.vc (V := TT 4 (ap [] (([] : List (List Int)).map af)∧TT 2 ((([] : List (List Int)).length + (s.chans.map af).length ≤ 137438953472∧([] : List (List Int)).map af ++ s.chans.map af = s.chans.map af)∧TT 7 (IX n s.chans.length∧(n.toNat < s.chans.length∧(s.chans.map af).set n.toNat ((af (s.chans.getD n.toNat [])).take 0 ++ [(.sl 1 (ah .i64) 0 l)] ++ (af (s.chans.getD n.toNat [])).drop (0 + 1)) = (s.chans.set n.toNat l).map af)∧TT 3 (s.procs.map a8 = ((dp s n.toNat l).procs).map a8∧(s.chans.set n.toNat l).map af = ((dp s n.toNat l).chans).map af∧True))))) (.w 1 [(2,.app false 43 1 af [] ([] : List (List Int))),(5,.app false 43 1 af [] s.chans)] <| .w 2 [(5,.box 43 1 af [] (s.chans.set n.toNat l))] <| .e) Tryz.func60 rfl rfl rfl (by kernel_rfl) ?_
 refine tt ⟨oK,tt ⟨⟨by simp only [List.length_map,List.length_cons,List.length_nil,List.length_append,List.length_drop,List.length_take]; first | omega | (simp; first | done | omega),by simp only [List.map_append,List.map_nil,List.append_nil,List.nil_append]⟩,tt ⟨ix,⟨⟨om,by simp only [List.map_set]; rfl⟩,tt ⟨(congrArg _ (?_ : s.procs = ((dp s n.toNat l).procs))),(congrArg _ (?_ : (s.chans.set n.toNat l) = ((dp s n.toNat l).chans))),oK⟩⟩⟩⟩⟩
 all_goals (rfl)
abbrev Gu (c : Ci) (s : Ns) (n : Int) (ws : List Int) : Ct := ⟨29,[(.agg (jh c)),(.agg (jg s)),(.agg [(i6 n),(LI ws)])],true,(.agg [(dL 2 a8 a7 (((ak c s n ws).1).procs)),(dL 1 af [] (((ak c s n ws).1).chans)),(LI ([] : List Int)),(i6 ((ak c s n ws).2))])⟩
theorem p5 (c : Ci) (s : Ns) (n : Int) (ws : List Int) (hc : bK c) (hs : bX c s) (hsm : fD s 4294967296) (hw : ws.length ≤ 4294967296) : CC (Gu c s n ws) := by
 have hnl := hc.nl
 have hcl := hc.cl
 have hl1 := hs.pl
 have hl2 := hs.cl
 refine ai.vc (V := TT 4 (CS (n < 0) (TT 3 ((True∧(decide (n < 0)) = true)∧TT 8 ((((ak c s n ws).1).procs) = []∧(((ak c s n ws).1).chans) = []∧([] : List Int) = []∧(1 : Int) = ((ak c s n ws).2)∧True))) (CS (n ≥ (c.chans.length : Int)) (TT 3 ((True∧(decide (n < 0)) = false)∧TT 7 ((True∧(decide (n ≥ (c.chans.length : Int))) = true)∧TT 6 ((((ak c s n ws).1).procs) = []∧(((ak c s n ws).1).chans) = []∧([] : List Int) = []∧(1 : Int) = ((ak c s n ws).2)∧True)))) (CS (((c.chans.getD n.toNat aX).frm) = (-1)) (TT 3 ((True∧(decide (n < 0)) = false)∧TT 7 ((True∧(decide (n ≥ (c.chans.length : Int))) = false)∧TT 4 (IX n c.chans.length∧TT 4 ((True∧(!decide (((c.chans.getD n.toNat aX).frm) = (-1))) = false)∧TT 6 (IX n c.chans.length∧TT 2 (CC (Fb ws ((c.chans.getD n.toNat aX).w))∧TT 2 (CB (!(b6 ws ((c.chans.getD n.toNat aX).w))) (TT 3 ((((ak c s n ws).1).procs) = []∧(((ak c s n ws).1).chans) = []∧([] : List Int) = []∧(1 : Int) = ((ak c s n ws).2)∧True)) (TT 3 (ap [] (([] : List Int).map (ah .i64))∧TT 4 (IX n s.chans.length∧TT 1 ((([] : List Int).length + ((s.chans.getD n.toNat []).map (ah .i64)).length ≤ 137438953472∧([] : List Int).map (ah .i64) ++ (s.chans.getD n.toNat []).map (ah .i64) = (s.chans.getD n.toNat []).map (ah .i64))∧TT 2 (((s.chans.getD n.toNat []).length + (ws.map (ah .i64)).length ≤ 137438953472∧(s.chans.getD n.toNat []).map (ah .i64) ++ ws.map (ah .i64) = ((s.chans.getD n.toNat []) ++ ws).map (ah .i64))∧CC (G0 s n ((s.chans.getD n.toNat []) ++ ws))∧TT 3 (((dp s n.toNat ((s.chans.getD n.toNat []) ++ ws)).procs).map a8 = (((ak c s n ws).1).procs).map a8∧((dp s n.toNat ((s.chans.getD n.toNat []) ++ ws)).chans).map af = (((ak c s n ws).1).chans).map af∧([] : List Int) = []∧(0 : Int) = ((ak c s n ws).2)∧True)))))))))))))) (TT 3 ((True∧(decide (n < 0)) = false)∧TT 7 ((True∧(decide (n ≥ (c.chans.length : Int))) = false)∧TT 4 (IX n c.chans.length∧TT 4 ((True∧(!decide (((c.chans.getD n.toNat aX).frm) = (-1))) = true)∧TT 4 ((((ak c s n ws).1).procs) = []∧(((ak c s n ws).1).chans) = []∧([] : List Int) = []∧(1 : Int) = ((ak c s n ws).2)∧True)))))))))) (.s 1 (n < 0) (.w 1 [(3,.val (dB true))] <| .e) (.s 1 (n ≥ (c.chans.length : Int)) (.w 1 [(3,.val (dB false)),(11,.val (dB true))] <| .e) (.s 1 (((c.chans.getD n.toNat aX).frm) = (-1)) (.w 1 [(3,.val (dB false)),(11,.val (dB false)),(21,.val (dB false)),(31,(Fb ws ((c.chans.getD n.toNat aX).w)).O)] <| .b 40 (.e) (.w 3 [(3,.app false 3 1 (ah .i64) 0 ([] : List Int)),(10,.app false 3 1 (ah .i64) 0 (s.chans.getD n.toNat [])),(13,.app true 3 1 (ah .i64) 0 ((s.chans.getD n.toNat []) ++ ws)),(14,(G0 s n ((s.chans.getD n.toNat []) ++ ws)).O)] <| .e)) (.w 1 [(3,.val (dB false)),(11,.val (dB false)),(21,.val (dB true))] <| .e)))) Tryz.func29 rfl rfl rfl (by kernel_rfl) ?_
 refine tt ⟨fun hs0 => ?_,fun hs0 => ?_⟩
 · refine tt ⟨(vT hs0),tt ⟨?_,?_,?_,?_,oK⟩⟩
   all_goals (all_goals (first | rfl | (rw [dy (cK (by omega))]) | (rw [dy (cL (by omega))]) | (rw [dy (fx (by show ¬(c.chans.getD n.toNat aX).frm = -1; omega))]) | (rw [fu (by simpa using hc40)]) | (rw [ib (dm (by omega) (by omega) (show (c.chans.getD n.toNat aX).frm = -1 by omega)) (by simpa using hc40)])))
 · refine ⟨fun hs1 => ?_,fun hs1 => ?_⟩
   · refine tt ⟨(vF hs0),tt ⟨(vT hs1),tt ⟨?_,?_,?_,?_,oK⟩⟩⟩
     all_goals (all_goals (first | rfl | (rw [dy (cK (by omega))]) | (rw [dy (cL (by omega))]) | (rw [dy (fx (by show ¬(c.chans.getD n.toNat aX).frm = -1; omega))]) | (rw [fu (by simpa using hc40)]) | (rw [ib (dm (by omega) (by omega) (show (c.chans.getD n.toNat aX).frm = -1 by omega)) (by simpa using hc40)])))
   · refine ⟨fun hs2 => ?_,fun hs2 => ?_⟩
     · refine tt ⟨(vF hs0),tt ⟨(vF hs1),tt ⟨ix,tt ⟨(nF hs2),tt ⟨ix,tt ⟨(iP ws ((c.chans.getD n.toNat aX).w) (by omega)),tt ⟨fun hc40 => ?_,fun hc40 => ?_⟩⟩⟩⟩⟩⟩⟩
       · refine tt ⟨?_,?_,?_,?_,oK⟩
         all_goals (all_goals (first | rfl | (rw [dy (cK (by omega))]) | (rw [dy (cL (by omega))]) | (rw [dy (fx (by show ¬(c.chans.getD n.toNat aX).frm = -1; omega))]) | (rw [fu (by simpa using hc40)]) | (rw [ib (dm (by omega) (by omega) (show (c.chans.getD n.toNat aX).frm = -1 by omega)) (by simpa using hc40)])))
       · have hlw : (s.chans.getD n.toNat []).length ≤ 4294967296 := hsm n.toNat
         refine tt ⟨oK,tt ⟨ix,tt ⟨⟨by simp only [List.length_map,List.length_cons,List.length_nil,List.length_append,List.length_drop,List.length_take]; first | omega | (simp; first | done | omega),by simp only [List.map_append,List.map_nil,List.append_nil,List.nil_append]⟩,tt ⟨⟨by simp only [List.length_map,List.length_cons,List.length_nil,List.length_append,List.length_drop,List.length_take]; first | omega | (simp; first | done | omega),by simp only [List.map_append,List.map_nil,List.append_nil,List.nil_append]⟩,⟨(wX s n ((s.chans.getD n.toNat []) ++ ws) om om om),tt ⟨(congrArg _ (?_ : ((dp s n.toNat ((s.chans.getD n.toNat []) ++ ws)).procs) = (((ak c s n ws).1).procs))),(congrArg _ (?_ : ((dp s n.toNat ((s.chans.getD n.toNat []) ++ ws)).chans) = (((ak c s n ws).1).chans))),?_,?_,oK⟩⟩⟩⟩⟩⟩
         all_goals (all_goals (first | rfl | (rw [dy (cK (by omega))]) | (rw [dy (cL (by omega))]) | (rw [dy (fx (by show ¬(c.chans.getD n.toNat aX).frm = -1; omega))]) | (rw [fu (by simpa using hc40)]) | (rw [ib (dm (by omega) (by omega) (show (c.chans.getD n.toNat aX).frm = -1 by omega)) (by simpa using hc40)])))
     · refine tt ⟨(vF hs0),tt ⟨(vF hs1),tt ⟨ix,tt ⟨(nT hs2),tt ⟨?_,?_,?_,?_,oK⟩⟩⟩⟩⟩
       all_goals (all_goals (first | rfl | (rw [dy (cK (by omega))]) | (rw [dy (cL (by omega))]) | (rw [dy (fx (by show ¬(c.chans.getD n.toNat aX).frm = -1; omega))]) | (rw [fu (by simpa using hc40)]) | (rw [ib (dm (by omega) (by omega) (show (c.chans.getD n.toNat aX).frm = -1 by omega)) (by simpa using hc40)])))
abbrev Jl (c : Ci) (s : Ns) (n : Int) : Ct := ⟨35,[(.agg (jh c)),(.agg (jg s)),(i6 n)],true,(.agg [(dL 2 a8 a7 (((aH c s n).2.1).procs)),(dL 1 af [] (((aH c s n).2.1).chans)),(LI ((aH c s n).1)),(i6 ((aH c s n).2.2))])⟩
theorem yB (c : Ci) (s : Ns) (n : Int) (hc : bK c) (hs : bX c s) (hsm : fD s 4294967296) : CC (Jl c s n) := by
 have hnl := hc.nl
 have hcl := hc.cl
 have hl1 := hs.pl
 have hl2 := hs.cl
 refine ai.vc (V := TT 3 (CS (n < 0) (TT 2 ((True∧(decide (n < 0)) = true)∧TT 18 ((((aH c s n).2.1).procs) = []∧(((aH c s n).2.1).chans) = []∧((aH c s n).1) = []∧(1 : Int) = ((aH c s n).2.2)∧True))) (CS (n ≥ (c.chans.length : Int)) (TT 2 ((True∧(decide (n < 0)) = false)∧TT 6 ((True∧(decide (n ≥ (c.chans.length : Int))) = true)∧TT 11 ((((aH c s n).2.1).procs) = []∧(((aH c s n).2.1).chans) = []∧((aH c s n).1) = []∧(1 : Int) = ((aH c s n).2.2)∧True)))) (TT 2 ((True∧(decide (n < 0)) = false)∧TT 6 ((True∧(decide (n ≥ (c.chans.length : Int))) = false)∧TT 3 (IX n c.chans.length∧TT 4 (CN (((c.chans.getD n.toNat aX).dst) = (-1)) (TT 3 ((((aH c s n).2.1).procs) = []∧(((aH c s n).2.1).chans) = []∧((aH c s n).1) = []∧(1 : Int) = ((aH c s n).2.2)∧True)) (TT 2 ((xx [] [(.agg (jg s)),(i6 n),.nils] (G0 s n []).as∧CC (G0 s n []))∧TT 3 (IX n s.chans.length∧TT 4 (((dp s n.toNat []).procs).map a8 = (((aH c s n).2.1).procs).map a8∧((dp s n.toNat []).chans).map af = (((aH c s n).2.1).chans).map af∧(s.chans.getD n.toNat []).map (ah .i64) = ((aH c s n).1).map (ah .i64)∧(0 : Int) = ((aH c s n).2.2)∧True)))))))))))) (.s 1 (n < 0) (.w 1 [(2,.val (dB true))] <| .e) (.s 1 (n ≥ (c.chans.length : Int)) (.w 1 [(2,.val (dB false)),(9,.val (dB true))] <| .e) (.w 1 [(2,.val (dB false)),(9,.val (dB false))] <| .b 24 (.e) (.w 3 [(2,(G0 s n []).O')] <| .e)))) Tryz.func35 rfl rfl rfl (by kernel_rfl) ?_
 refine tt ⟨fun hs0 => ?_,fun hs0 => ?_⟩
 · refine tt ⟨(vT hs0),tt ⟨?_,?_,?_,?_,oK⟩⟩
   all_goals (all_goals (first | rfl | (rw [dJ (cK (by omega))]) | (rw [dJ (cL (by omega))]) | (rw [dJ (fx (by show ¬(c.chans.getD n.toNat aX).dst = -1; omega))]) | (rw [dG (dm (by omega) (by omega) (show (c.chans.getD n.toNat aX).dst = -1 by omega))]; rfl) | (rw [dG (dm (by omega) (by omega) (show (c.chans.getD n.toNat aX).dst = -1 by omega))])))
 · refine ⟨fun hs1 => ?_,fun hs1 => ?_⟩
   · refine tt ⟨(vF hs0),tt ⟨(vT hs1),tt ⟨?_,?_,?_,?_,oK⟩⟩⟩
     all_goals (all_goals (first | rfl | (rw [dJ (cK (by omega))]) | (rw [dJ (cL (by omega))]) | (rw [dJ (fx (by show ¬(c.chans.getD n.toNat aX).dst = -1; omega))]) | (rw [dG (dm (by omega) (by omega) (show (c.chans.getD n.toNat aX).dst = -1 by omega))]; rfl) | (rw [dG (dm (by omega) (by omega) (show (c.chans.getD n.toNat aX).dst = -1 by omega))])))
   · refine tt ⟨(vF hs0),tt ⟨(vF hs1),tt ⟨ix,tt (cn (fun hc24 => ?_) (fun hc24 => ?_))⟩⟩⟩
     · refine tt ⟨?_,?_,?_,?_,oK⟩
       all_goals (all_goals (first | rfl | (rw [dJ (cK (by omega))]) | (rw [dJ (cL (by omega))]) | (rw [dJ (fx (by show ¬(c.chans.getD n.toNat aX).dst = -1; omega))]) | (rw [dG (dm (by omega) (by omega) (show (c.chans.getD n.toNat aX).dst = -1 by omega))]; rfl) | (rw [dG (dm (by omega) (by omega) (show (c.chans.getD n.toNat aX).dst = -1 by omega))])))
     · refine tt ⟨⟨⟨⟨rfl,rfl,oK⟩,rfl,rfl,oK⟩,(wX s n [] om om om)⟩,tt ⟨ix,tt ⟨(congrArg _ (?_ : ((dp s n.toNat []).procs) = (((aH c s n).2.1).procs))),(congrArg _ (?_ : ((dp s n.toNat []).chans) = (((aH c s n).2.1).chans))),(congrArg _ (?_ : (s.chans.getD n.toNat []) = ((aH c s n).1))),?_,oK⟩⟩⟩
       all_goals (all_goals (first | rfl | (rw [dJ (cK (by omega))]) | (rw [dJ (cL (by omega))]) | (rw [dJ (fx (by show ¬(c.chans.getD n.toNat aX).dst = -1; omega))]) | (rw [dG (dm (by omega) (by omega) (show (c.chans.getD n.toNat aX).dst = -1 by omega))]; rfl) | (rw [dG (dm (by omega) (by omega) (show (c.chans.getD n.toNat aX).dst = -1 by omega))])))
abbrev KO (c : Ci) (s : Ns) (p : Nat) : Ct := ⟨51,[(.agg (jh c)),(.agg (jg s)),(i6 (p : Int))],true,(.agg [(dL 2 bp aK (cS c s p)),(LB (di c s p))])⟩
abbrev lX (c : Ci) (s : Ns) (p : Nat) : Lp (Nat) := fC [2,3,4,6,7,8] 5 (fun (i : Nat) => ⟨[(2,(i6 (p : Int))),(3,(.ptr 0 0 0 0)),(4,(.ptr 1 0 0 0)),(6,(.ptr 2 0 0 0)),(7,(.ptr 3 0 0 0)),(8,(i6 (i : Int)))],[(.var 31 (jh c)),(.var 36 (jg s)),(.var 121 [.nils,.nils]),(.var 121 [(.own 4),.nils]),(.arr 68 2 bp aK (aq (b9 c s p) i))]⟩) (fun (i : Nat) => i ≤ (c.procs.getD p av).takes.length) (fun (i : Nat) => (c.procs.getD p av).takes.length - i)
abbrev lY (c : Ci) (s : Ns) (p : Nat) (i : Nat) : Lp (Nat) := fC [2,3,4,6,7,11] 6 (fun (m : Nat) => ⟨[(2,(i6 (p : Int))),(3,(.ptr 0 0 0 0)),(4,(.ptr 1 0 0 0)),(6,(.ptr 2 0 0 0)),(7,(.ptr 3 0 0 0)),(11,(i6 (m : Int)))],[(.var 31 (jh c)),(.var 36 (jg s)),(.var 121 [.nils,.nils]),(.var 121 [(.own 4),(.own 5)]),(.arr 68 2 bp aK (aq (b9 c s p) i)),(.arr 4 1 aJ false (aq (ca c s p) m))]⟩) (fun (m : Nat) => m ≤ (c.procs.getD p av).puts.length) (fun (m : Nat) => (c.procs.getD p av).puts.length - m)
theorem Fc (c : Ci) (s : Ns) (p : Nat) (hc : bK c) (hs : bX c s) (hp : p < c.procs.length) : CC (KO c s p) := by
 have hnl := hc.nl
 have hcl := hc.cl
 have hpk : fM (c.procs.getD p av) := hc.pr p hp
 have hl1 := hs.pl
 have hl2 := hs.cl
 have ht1 : (c.procs.getD p av).takes.length ≤ 100 := hpk.tl
 have ht2 : (c.procs.getD p av).puts.length ≤ 100 := hpk.pl
 refine ai.vc (V := TT 7 (GO (lX c s p) 0 (∀ i,(lX c s p).inv i → TT 4 (IX (p : Int) c.procs.length∧TT 4 (CD ((i : Int) < ((((c.procs.getD p av).takes).length : Nat) : Int)) (TT 5 (IX (p : Int) c.procs.length∧TT 3 (IX (i : Int) (((c.procs.getD p av).takes).length)∧TT 2 (IX ((((c.procs.getD p av).takes).getD i bo).chan) s.chans.length∧TT 8 (CD ((((s.chans.getD (((((c.procs.getD p av).takes).getD i bo).chan).toNat) []).length : Nat) : Int) > 0) (TT 1 (IX 0 ((s.chans.getD (((((c.procs.getD p av).takes).getD i bo).chan).toNat) []).length)∧TT 6 (ap [[(dB true),(i6 ((s.chans.getD (((((c.procs.getD p av).takes).getD i bo).chan).toNat) []).getD 0 0))]] ([(⟨true,((s.chans.getD (((((c.procs.getD p av).takes).getD i bo).chan).toNat) []).getD 0 0)⟩ : Hd)].map bp)∧((aq (b9 c s p) i).length + ([(⟨true,((s.chans.getD (((((c.procs.getD p av).takes).getD i bo).chan).toNat) []).getD 0 0)⟩ : Hd)].map bp).length ≤ 137438953472∧(aq (b9 c s p) i).map bp ++ [(⟨true,((s.chans.getD (((((c.procs.getD p av).takes).getD i bo).chan).toNat) []).getD 0 0)⟩ : Hd)].map bp = (aq (b9 c s p) (i + 1)).map bp)∧TT 3 (W6 ((i + 1 : Nat) : Int)∧TT 1 (AG (lX c s p) i (i + 1)))))) (TT 3 (ap [[(dB false),(i6 0)]] ([(⟨false,0⟩ : Hd)].map bp)∧((aq (b9 c s p) i).length + ([(⟨false,0⟩ : Hd)].map bp).length ≤ 137438953472∧(aq (b9 c s p) i).map bp ++ [(⟨false,0⟩ : Hd)].map bp = (aq (b9 c s p) (i + 1)).map bp)∧TT 3 (W6 ((i + 1 : Nat) : Int)∧TT 1 (AG (lX c s p) i (i + 1)))))))))) (TT 1 (GO (lY c s p i) 0 (∀ m,(lY c s p i).inv m → TT 4 (IX (p : Int) c.procs.length∧TT 4 (CD ((m : Int) < ((((c.procs.getD p av).puts).length : Nat) : Int)) (TT 3 (IX (p : Int) c.procs.length∧TT 3 (IX (m : Int) (((c.procs.getD p av).puts).length)∧TT 3 (CS (((c.chans.getD (((((c.procs.getD p av).puts).getD m a6).chan).toNat) aX).dst) = (-1)) (TT 5 (IX ((((c.procs.getD p av).puts).getD m a6).chan) c.chans.length∧TT 3 ((True∧(decide (((c.chans.getD (((((c.procs.getD p av).puts).getD m a6).chan).toNat) aX).dst) = (-1))) = true)∧TT 1 (ap [[(dB true)]] ([true].map aJ)∧((aq (ca c s p) m).length + ([true].map aJ).length ≤ 137438953472∧(aq (ca c s p) m).map aJ ++ [true].map aJ = (aq (ca c s p) (m + 1)).map aJ)∧TT 3 (W6 ((m + 1 : Nat) : Int)∧TT 1 (AG (lY c s p i) m (m + 1))))))) (TT 5 (IX ((((c.procs.getD p av).puts).getD m a6).chan) c.chans.length∧TT 3 ((True∧(decide (((c.chans.getD (((((c.procs.getD p av).puts).getD m a6).chan).toNat) aX).dst) = (-1))) = false)∧TT 3 (IX ((((c.procs.getD p av).puts).getD m a6).chan) s.chans.length∧TT 5 (IX ((((c.procs.getD p av).puts).getD m a6).chan) c.chans.length∧TT 4 (ap [[(dB (decide ((((s.chans.getD (((((c.procs.getD p av).puts).getD m a6).chan).toNat) []).length : Nat) : Int) < ((c.chans.getD (((((c.procs.getD p av).puts).getD m a6).chan).toNat) aX).cap))))]] ([decide ((((s.chans.getD (((((c.procs.getD p av).puts).getD m a6).chan).toNat) []).length : Nat) : Int) < ((c.chans.getD (((((c.procs.getD p av).puts).getD m a6).chan).toNat) aX).cap))].map aJ)∧((aq (ca c s p) m).length + ([decide ((((s.chans.getD (((((c.procs.getD p av).puts).getD m a6).chan).toNat) []).length : Nat) : Int) < ((c.chans.getD (((((c.procs.getD p av).puts).getD m a6).chan).toNat) aX).cap))].map aJ).length ≤ 137438953472∧(aq (ca c s p) m).map aJ ++ [decide ((((s.chans.getD (((((c.procs.getD p av).puts).getD m a6).chan).toNat) []).length : Nat) : Int) < ((c.chans.getD (((((c.procs.getD p av).puts).getD m a6).chan).toNat) aX).cap))].map aJ = (aq (ca c s p) (m + 1)).map aJ)∧TT 3 (W6 ((m + 1 : Nat) : Int)∧TT 1 (AG (lY c s p i) m (m + 1))))))))))))) (TT 3 ((aq (b9 c s p) i).map bp = (cS c s p).map bp∧(aq (ca c s p) m).map aJ = (di c s p).map aJ∧True)))))))))))) (.g 2 3 0 68 2 bp aK <| .l (lX c s p) 0 (fun i => .b 22 (.b 42 (.w 9 [(3,.box 68 2 bp aK [(⟨true,((s.chans.getD (((((c.procs.getD p av).takes).getD i bo).chan).toNat) []).getD 0 0)⟩ : Hd)]),(4,.box 68 2 bp aK (aq (b9 c s p) (i + 1)))] <| .w 4 [(1,.val (i6 ((i + 1 : Nat) : Int)))] <| .e) (.w 9 [(3,.box 68 2 bp aK [(⟨false,0⟩ : Hd)]),(4,.box 68 2 bp aK (aq (b9 c s p) (i + 1)))] <| .w 4 [(1,.val (i6 ((i + 1 : Nat) : Int)))] <| .e)) (.g 10 3 1 4 1 aJ false <| .l (lY c s p i) 0 (fun m => .b 61 (.s 14 (((c.chans.getD (((((c.procs.getD p av).puts).getD m a6).chan).toNat) aX).dst) = (-1)) (.w 14 [(9,.val (dB true)),(24,.box 4 1 aJ false [true]),(25,.box 4 1 aJ false (aq (ca c s p) (m + 1)))] <| .w 12 [(1,.val (i6 ((m + 1 : Nat) : Int)))] <| .e) (.w 14 [(9,.val (dB false)),(24,.box 4 1 aJ false [decide ((((s.chans.getD (((((c.procs.getD p av).puts).getD m a6).chan).toNat) []).length : Nat) : Int) < ((c.chans.getD (((((c.procs.getD p av).puts).getD m a6).chan).toNat) aX).cap))]),(25,.box 4 1 aJ false (aq (ca c s p) (m + 1)))] <| .w 12 [(1,.val (i6 ((m + 1 : Nat) : Int)))] <| .e)) (.e))))) Tryz.func51 rfl rfl rfl (by kernel_rfl) ?_
 refine tt ⟨rfl,(by omega),?_⟩
 intro i hinv
 have hi := hinv
 refine tt ⟨ix,tt (cd (fun hc22 => ?_) (fun hc22 => ?_))⟩
 · have htk : 0 ≤ ((c.procs.getD p av).takes.getD i bo).chan∧((c.procs.getD p av).takes.getD i bo).chan < c.chans.length := ⟨(hc.tk p hp i (show i < (c.procs.getD p av).takes.length by omega)).1,(hc.tk p hp i (show i < (c.procs.getD p av).takes.length by omega)).2.1⟩
   refine tt ⟨ix,tt ⟨ix,tt ⟨ix,tt (cd (fun hc42 => ?_) (fun hc42 => ?_))⟩⟩⟩
   · refine tt ⟨ix,tt ⟨⟨⟨rfl,rfl,oK⟩,oK⟩,⟨(bz (by omega) (by first | exact (if_pos (show 0 < (s.chans.getD ((c.procs.getD p av).takes.getD i bo).chan.toNat []).length by omega)).symm | exact (if_neg (show ¬0 < (s.chans.getD ((c.procs.getD p av).takes.getD i bo).chan.toNat []).length by omega)).symm)),tt ⟨w6,tt ⟨(i + 1),rfl,(?_ : (i + 1) ≤ (c.procs.getD p av).takes.length),(?_ : (c.procs.getD p av).takes.length - (i + 1) < (c.procs.getD p av).takes.length - i)⟩⟩⟩⟩⟩
     · omega
     · omega
   · refine tt ⟨⟨⟨rfl,rfl,oK⟩,oK⟩,⟨(bz (by omega) (by first | exact (if_pos (show 0 < (s.chans.getD ((c.procs.getD p av).takes.getD i bo).chan.toNat []).length by omega)).symm | exact (if_neg (show ¬0 < (s.chans.getD ((c.procs.getD p av).takes.getD i bo).chan.toNat []).length by omega)).symm)),tt ⟨w6,tt ⟨(i + 1),rfl,(?_ : (i + 1) ≤ (c.procs.getD p av).takes.length),(?_ : (c.procs.getD p av).takes.length - (i + 1) < (c.procs.getD p av).takes.length - i)⟩⟩⟩⟩
     · omega
     · omega
 · refine tt ⟨rfl,(by omega),?_⟩
   intro m hinv
   have hm := hinv
   refine tt ⟨ix,tt (cd (fun hc61 => ?_) (fun hc61 => ?_))⟩
   · have hpt : 0 ≤ ((c.procs.getD p av).puts.getD m a6).chan∧((c.procs.getD p av).puts.getD m a6).chan < c.chans.length := ⟨(hc.pt p hp m (show m < (c.procs.getD p av).puts.length by omega)).1,(hc.pt p hp m (show m < (c.procs.getD p av).puts.length by omega)).2.1⟩
     refine tt ⟨ix,tt ⟨ix,tt ⟨fun hs0 => ?_,fun hs0 => ?_⟩⟩⟩
     · refine tt ⟨ix,tt ⟨(vT hs0),tt ⟨⟨⟨rfl,oK⟩,oK⟩,⟨(bz (by omega) (by first | exact (wI hs0).symm | exact (lO hs0).symm | exact (lO hs1).symm)),tt ⟨w6,tt ⟨(m + 1),rfl,(?_ : (m + 1) ≤ (c.procs.getD p av).puts.length),(?_ : (c.procs.getD p av).puts.length - (m + 1) < (c.procs.getD p av).puts.length - m)⟩⟩⟩⟩⟩⟩
       · omega
       · omega
     · refine tt ⟨ix,tt ⟨(vF hs0),tt ⟨ix,tt ⟨ix,tt ⟨⟨⟨rfl,oK⟩,oK⟩,⟨(bz (by omega) (by first | exact (wI hs0).symm | exact (lO hs0).symm | exact (lO hs1).symm)),tt ⟨w6,tt ⟨(m + 1),rfl,(?_ : (m + 1) ≤ (c.procs.getD p av).puts.length),(?_ : (c.procs.getD p av).puts.length - (m + 1) < (c.procs.getD p av).puts.length - m)⟩⟩⟩⟩⟩⟩⟩⟩
       · omega
       · omega
   · refine tt ⟨(congrArg _ (?_ : (aq (b9 c s p) i) = (cS c s p))),(congrArg _ (?_ : (aq (ca c s p) m) = (di c s p))),oK⟩
     · rw [show i = (c.procs.getD p av).takes.length by omega]; rfl
     · rw [show m = (c.procs.getD p av).puts.length by omega]; rfl
abbrev Jm (c : Ci) (s : Ns) (p : Nat) : Ct := ⟨15,[(.agg (jh c)),(.agg (jg s)),(i6 (p : Int))],true,(.agg [(dB ((ab c s p).fires)),(LI (((ab c s p).s).regs)),(dL 1 af [] (((ab c s p).s).mems)),(LB ((ab c s p).pops)),(dL 2 bp aK ((ab c s p).puts))])⟩
theorem vu (c : Ci) (s : Ns) (p : Nat) (hc : bK c) (hs : bX c s) (hp : p < c.procs.length) : CC (Jm c s p) := by
 have hnl := hc.nl
 have hcl := hc.cl
 have hpk : fM (c.procs.getD p av) := hc.pr p hp
 have hl1 := hs.pl
 have hl2 := hs.cl
 have ht1 : (c.procs.getD p av).takes.length ≤ 100 := hpk.tl
 have ht2 : (c.procs.getD p av).puts.length ≤ 100 := hpk.pl
 refine ai.vc (V := TT 6 (IX (p : Int) c.procs.length∧TT 4 (IX (p : Int) s.procs.length∧TT 4 (CC (KO c s p)∧CC (KM (c.procs.getD p av) (s.procs.getD p a7) (cS c s p) (di c s p))∧TT 2 (((aU (c.procs.getD p av) (s.procs.getD p a7) (cS c s p) (di c s p)).fires) = ((ab c s p).fires)∧(((aU (c.procs.getD p av) (s.procs.getD p a7) (cS c s p) (di c s p)).s).regs).map (ah .i64) = (((ab c s p).s).regs).map (ah .i64)∧(((aU (c.procs.getD p av) (s.procs.getD p a7) (cS c s p) (di c s p)).s).mems).map af = (((ab c s p).s).mems).map af∧((aU (c.procs.getD p av) (s.procs.getD p a7) (cS c s p) (di c s p)).pops).map aJ = ((ab c s p).pops).map aJ∧((aU (c.procs.getD p av) (s.procs.getD p a7) (cS c s p) (di c s p)).puts).map bp = ((ab c s p).puts).map bp∧True))))) (.w 1 [(13,(KO c s p).O),(14,(KM (c.procs.getD p av) (s.procs.getD p a7) (cS c s p) (di c s p)).O)] <| .e) Tryz.func15 rfl rfl rfl (by kernel_rfl) ?_
 refine tt ⟨ix,tt ⟨ix,tt ⟨(Fc c s p hc hs hp),⟨(C0 (c.procs.getD p av) (s.procs.getD p a7) (cS c s p) (di c s p) hpk (hs.pv p hp) (pI hc hs hp) (by rw [di,aO])),tt ⟨?_,(congrArg _ (?_ : (((aU (c.procs.getD p av) (s.procs.getD p a7) (cS c s p) (di c s p)).s).regs) = (((ab c s p).s).regs))),(congrArg _ (?_ : (((aU (c.procs.getD p av) (s.procs.getD p a7) (cS c s p) (di c s p)).s).mems) = (((ab c s p).s).mems))),(congrArg _ (?_ : ((aU (c.procs.getD p av) (s.procs.getD p a7) (cS c s p) (di c s p)).pops) = ((ab c s p).pops))),(congrArg _ (?_ : ((aU (c.procs.getD p av) (s.procs.getD p a7) (cS c s p) (di c s p)).puts) = ((ab c s p).puts))),oK⟩⟩⟩⟩⟩
 all_goals (rfl)
abbrev yC (c : Ci) (s : Ns) (p : Int) : Ct := ⟨34,[(.agg (jh c)),(.agg (jg s)),(i6 p)],false,(dB (cf c s p))⟩
theorem ji (c : Ci) (s : Ns) (p : Int) (hc : bK c) (hs : bX c s) : CC (yC c s p) := by
 have hnl := hc.nl
 have hcl := hc.cl
 refine ai.vc (V := TT 3 (CS (p ≥ 0) (CS (p < (c.procs.length : Int)) (TT 2 ((True∧(decide (p ≥ 0)) = true)∧TT 6 ((True∧(decide (p < (c.procs.length : Int))) = true)∧TT 2 ((True∧p = (p.toNat : Int))∧CC (Jm c s p.toNat)∧TT 4 (((ab c s p.toNat).fires) = (cf c s p)∧True))))) (TT 2 ((True∧(decide (p ≥ 0)) = true)∧TT 6 ((True∧(decide (p < (c.procs.length : Int))) = false)∧TT 8 (false = (cf c s p)∧True))))) (TT 2 ((True∧(decide (p ≥ 0)) = false)∧TT 15 (false = (cf c s p)∧True))))) (.s 1 (p ≥ 0) (.s 1 (p < (c.procs.length : Int)) (.w 1 [(2,.val (dB true)),(9,.val (dB true)),(12,.val (i6 (p.toNat : Int))),(13,(Jm c s p.toNat).O)] <| .e) (.w 1 [(2,.val (dB true)),(9,.val (dB false))] <| .e)) (.w 1 [(2,.val (dB false))] <| .e)) Tryz.func34 rfl rfl rfl (by kernel_rfl) ?_
 refine tt ⟨fun hs0 => ?_,fun hs0 => ?_⟩
 · refine ⟨fun hs1 => ?_,fun hs1 => ?_⟩
   · refine tt ⟨(vT hs0),tt ⟨(vT hs1),tt ⟨⟨oK,(by omega)⟩,⟨(vu c s p.toNat hc hs (by omega)),tt ⟨?_,oK⟩⟩⟩⟩⟩
     first | exact (jB (by omega)).symm | exact (jC (by omega)).symm | exact (kr (by omega) (by omega)).symm
   · refine tt ⟨(vT hs0),tt ⟨(vF hs1),tt ⟨?_,oK⟩⟩⟩
     first | exact (jB (by omega)).symm | exact (jC (by omega)).symm | exact (kr (by omega) (by omega)).symm
 · refine tt ⟨(vF hs0),tt ⟨?_,oK⟩⟩
   first | exact (jB (by omega)).symm | exact (jC (by omega)).symm | exact (kr (by omega) (by omega)).symm
abbrev Jn (c : Ci) (s : Ns) : Ct := ⟨62,[(.agg (jh c)),(.agg (jg s))],false,(i6 (a5 c s))⟩
abbrev mU (c : Ci) (s : Ns) : Lp (Nat) := fC [2,3,5] 2 (fun (p : Nat) => ⟨[(2,(.ptr 0 0 0 0)),(3,(.ptr 1 0 0 0)),(5,(i6 (p : Int)))],[(.var 31 (jh c)),(.var 36 (jg s))]⟩) (fun (p : Nat) => p ≤ c.procs.length∧ft c s (c.procs.length - p) p = a5 c s) (fun (p : Nat) => c.procs.length - p)
theorem vx (c : Ci) (s : Ns) (hc : bK c) (hs : bX c s) : CC (Jn c s) := by
 have hnl := hc.nl
 have hcl := hc.cl
 refine ai.vc (V := TT 4 (GO (mU c s) 0 (∀ p,(mU c s).inv p → TT 5 (CD ((p : Int) < (c.procs.length : Int)) (TT 3 (CC (yC c s (p : Int))∧CB (cf c s (p : Int)) (TT 3 ((p : Int) = (a5 c s)∧True)) (TT 1 (W6 ((p + 1 : Nat) : Int)∧TT 1 (AG (mU c s) p (p + 1)))))) (TT 2 ((-1) = (a5 c s)∧True)))))) (.l (mU c s) 0 (fun p => .b 10 (.w 4 [(3,(yC c s (p : Int)).O)] <| .b 16 (.e) (.w 3 [(1,.val (i6 ((p + 1 : Nat) : Int)))] <| .e)) (.e))) Tryz.func62 rfl rfl rfl (by kernel_rfl) ?_
 refine tt ⟨rfl,⟨by omega,rfl⟩,?_⟩
 intro p hinv
 obtain ⟨hp,hfk⟩ := hinv
 refine tt (cd (fun hc10 => ?_) (fun hc10 => ?_))
 · refine tt ⟨(ji c s (p : Int) hc hs),⟨fun hc16 => ?_,fun hc16 => ?_⟩⟩
   · refine tt ⟨?_,oK⟩
     rw [← hfk]; first | exact (og (by omega) (by rw [← qX (by omega)]; exact hc16)).symm | exact (oh (by omega)).symm
   · refine tt ⟨w6,tt ⟨(p + 1),rfl,?_,(?_ : c.procs.length - (p + 1) < c.procs.length - p)⟩⟩
     · exact ⟨by omega,by rw [← hfk]; exact (vg (by omega) (by rw [← qX (by omega),hc16]; simp)).symm⟩
     · omega
 · refine tt ⟨?_,oK⟩
   rw [← hfk]; first | exact (og (by omega) (by rw [← qX (by omega)]; exact hc16)).symm | exact (oh (by omega)).symm
abbrev rP (a b : Ns) : Ct := ⟨22,[(.agg [(dL 2 a8 a7 a.procs),(dL 1 af [] a.chans)]),(.agg [(dL 2 a8 a7 b.procs),(dL 1 af [] b.chans)])],false,(dB (bO a b))⟩
abbrev mV (a : Ns) (b : Ns) : Lp (Nat) := fC [2,3,5] 2 (fun (i : Nat) => ⟨[(2,(.ptr 0 0 0 0)),(3,(.ptr 1 0 0 0)),(5,(i6 (i : Int)))],[(.var 36 [(dL 2 a8 a7 a.procs),(dL 1 af [] a.chans)]),(.var 36 [(dL 2 a8 a7 b.procs),(dL 1 af [] b.chans)])]⟩) (fun (i : Nat) => i ≤ a.procs.length∧∀ z,z < i → dR (a.procs.getD z a7) (b.procs.getD z a7) = true) (fun (i : Nat) => a.procs.length - i)
abbrev mW (a : Ns) (b : Ns) : Lp (Nat) := fC [2,3,6] 2 (fun (n : Nat) => ⟨[(2,(.ptr 0 0 0 0)),(3,(.ptr 1 0 0 0)),(6,(i6 (n : Int)))],[(.var 36 [(dL 2 a8 a7 a.procs),(dL 1 af [] a.chans)]),(.var 36 [(dL 2 a8 a7 b.procs),(dL 1 af [] b.chans)])]⟩) (fun (n : Nat) => n ≤ a.chans.length∧∀ z,z < n → a.chans.getD z [] = b.chans.getD z []) (fun (n : Nat) => a.chans.length - n)
theorem cZ (a b : Ns) (hz : CT a) : CC (rP a b) := by
 obtain ⟨hap,hac,hcb,hpa,hpb,hpc⟩ := hz
 refine ai.vc (V := TT 3 (CS ((a.procs.length : Int) = (b.procs.length : Int)) (TT 7 ((True∧(!decide ((a.procs.length : Int) = (b.procs.length : Int))) = false)∧TT 8 (CN ((a.chans.length : Int) = (b.chans.length : Int)) (TT 2 (false = (bO a b)∧True)) (TT 1 (GO (mV a b) 0 (∀ i,(mV a b).inv i → TT 5 (CD ((i : Int) < (a.procs.length : Int)) (TT 3 (IX (i : Int) a.procs.length∧TT 4 (IX (i : Int) b.procs.length∧TT 1 (CC (KN (a.procs.getD i a7) (b.procs.getD i a7))∧TT 1 (CB (!(dR (a.procs.getD i a7) (b.procs.getD i a7))) (TT 2 (false = (bO a b)∧True)) (TT 1 (W6 ((i + 1 : Nat) : Int)∧TT 1 (AG (mV a b) i (i + 1))))))))) (TT 1 (GO (mW a b) 0 (∀ n,(mW a b).inv n → TT 5 (CD ((n : Int) < (a.chans.length : Int)) (TT 3 (IX (n : Int) a.chans.length∧TT 4 (IX (n : Int) b.chans.length∧TT 1 (CC (tJ (a.chans.getD n []) (b.chans.getD n []))∧TT 1 (CN ((a.chans.getD n []) = (b.chans.getD n [])) (TT 2 (false = (bO a b)∧True)) (TT 1 (W6 ((n + 1 : Nat) : Int)∧TT 1 (AG (mW a b) n (n + 1))))))))) (TT 2 (true = (bO a b)∧True))))))))))))) (TT 7 ((True∧(!decide ((a.procs.length : Int) = (b.procs.length : Int))) = true)∧TT 10 (false = (bO a b)∧True))))) (.s 1 ((a.procs.length : Int) = (b.procs.length : Int)) (.w 1 [(7,.val (dB false))] <| .b 22 (.e) (.l (mV a b) 0 (fun i => .b 27 (.w 6 [(10,(KN (a.procs.getD i a7) (b.procs.getD i a7)).O)] <| .b 41 (.e) (.w 5 [(1,.val (i6 ((i + 1 : Nat) : Int)))] <| .e)) (.l (mW a b) 0 (fun n => .b 46 (.w 11 [(10,(tJ (a.chans.getD n []) (b.chans.getD n [])).O)] <| .b 60 (.e) (.w 10 [(1,.val (i6 ((n + 1 : Nat) : Int)))] <| .e)) (.e)))))) (.w 1 [(7,.val (dB true))] <| .e)) Tryz.func22 rfl rfl rfl (by kernel_rfl) ?_
 refine tt ⟨fun hs0 => ?_,fun hs0 => ?_⟩
 · refine tt ⟨(nF hs0),tt (cn (fun hc22 => ?_) (fun hc22 => ?_))⟩
   · refine tt ⟨?_,oK⟩
     first | exact (iH (by omega)).symm | exact (iI (by omega)).symm | exact (iJ (i := i) (by omega) (by simpa using hc41)).symm | exact (iK (n := n) (by simpa using hc60)).symm | exact (iL (by omega) (by omega) (fun z hz => h3 z (by omega)) (fun z hz => h4 z (by omega))).symm
   · refine tt ⟨rfl,⟨by omega,fun z hz => by omega⟩,?_⟩
     intro i hinv
     obtain ⟨hi,h3⟩ := hinv
     refine tt (cd (fun hc27 => ?_) (fun hc27 => ?_))
     · refine tt ⟨ix,tt ⟨ix,tt ⟨(C2 (a.procs.getD i a7) (b.procs.getD i a7) (by have := hpa i; omega) (by have := hpb i; omega) (fun j => by have := hpc i j; omega)),tt ⟨fun hc41 => ?_,fun hc41 => ?_⟩⟩⟩⟩
       · refine tt ⟨?_,oK⟩
         first | exact (iH (by omega)).symm | exact (iI (by omega)).symm | exact (iJ (i := i) (by omega) (by simpa using hc41)).symm | exact (iK (n := n) (by simpa using hc60)).symm | exact (iL (by omega) (by omega) (fun z hz => h3 z (by omega)) (fun z hz => h4 z (by omega))).symm
       · refine tt ⟨w6,tt ⟨(i + 1),rfl,?_,(?_ : a.procs.length - (i + 1) < a.procs.length - i)⟩⟩
         · exact ⟨by omega,bZ h3 (by simpa using hc41)⟩
         · omega
     · refine tt ⟨rfl,⟨by omega,fun z hz => by omega⟩,?_⟩
       intro n hinv
       obtain ⟨hn,h4⟩ := hinv
       refine tt (cd (fun hc46 => ?_) (fun hc46 => ?_))
       · refine tt ⟨ix,tt ⟨ix,tt ⟨(fy (a.chans.getD n []) (b.chans.getD n []) (by have := hcb n; omega)),tt (cn (fun hc60 => ?_) (fun hc60 => ?_))⟩⟩⟩
         · refine tt ⟨?_,oK⟩
           first | exact (iH (by omega)).symm | exact (iI (by omega)).symm | exact (iJ (i := i) (by omega) (by simpa using hc41)).symm | exact (iK (n := n) (by simpa using hc60)).symm | exact (iL (by omega) (by omega) (fun z hz => h3 z (by omega)) (fun z hz => h4 z (by omega))).symm
         · refine tt ⟨w6,tt ⟨(n + 1),rfl,?_,(?_ : a.chans.length - (n + 1) < a.chans.length - n)⟩⟩
           · exact ⟨by omega,bZ h4 (by simpa using hc60)⟩
           · omega
       · refine tt ⟨?_,oK⟩
         first | exact (iH (by omega)).symm | exact (iI (by omega)).symm | exact (iJ (i := i) (by omega) (by simpa using hc41)).symm | exact (iK (n := n) (by simpa using hc60)).symm | exact (iL (by omega) (by omega) (fun z hz => h3 z (by omega)) (fun z hz => h4 z (by omega))).symm
 · refine tt ⟨(nT hs0),tt ⟨?_,oK⟩⟩
   first | exact (iH (by omega)).symm | exact (iI (by omega)).symm | exact (iJ (i := i) (by omega) (by simpa using hc41)).symm | exact (iK (n := n) (by simpa using hc60)).symm | exact (iL (by omega) (by omega) (fun z hz => h3 z (by omega)) (fun z hz => h4 z (by omega))).symm
abbrev Fd (a b : List Bool) : Ct := ⟨37,[(LB a),(LB b)],false,(dB (decide (a = b)))⟩
abbrev p6 (a : List Bool) (b : List Bool) : Lp (Nat) := fC [0,1,5] 0 (fun (k : Nat) => ⟨[(0,(LB a)),(1,(LB b)),(5,(i6 (k : Int)))],[]⟩) (fun (k : Nat) => k ≤ a.length∧∀ z,z < k → a.getD z false = b.getD z false) (fun (k : Nat) => a.length - k)
theorem lZ (a b : List Bool) (ha : a.length ≤ 9223372036854775807) : CC (Fd a b) := by
 refine ai.vc (V := TT 6 (CN ((a.length : Int) = (b.length : Int)) (TT 2 (false = (decide (a = b))∧True)) (TT 1 (GO (p6 a b) 0 (∀ k,(p6 a b).inv k → TT 4 (CD ((k : Int) < (a.length : Int)) (TT 2 (IX (k : Int) a.length∧TT 3 (IX (k : Int) b.length∧TT 2 (CB (!((a.getD k false) == (b.getD k false))) (TT 2 (false = (decide (a = b))∧True)) (TT 1 (W6 ((k + 1 : Nat) : Int)∧TT 1 (AG (p6 a b) k (k + 1)))))))) (TT 2 (true = (decide (a = b))∧True)))))))) (.b 10 (.e) (.l (p6 a b) 0 (fun k => .b 14 (.b 25 (.e) (.w 5 [(1,.val (i6 ((k + 1 : Nat) : Int)))] <| .e)) (.e)))) Tryz.func37 rfl rfl rfl (by kernel_rfl) ?_
 refine tt (cn (fun hc10 => ?_) (fun hc10 => ?_))
 · refine tt ⟨?_,oK⟩
   first | exact (decide_eq_false (fun e => by subst e; omega)).symm | exact (decide_eq_false (fun e => by rw [e] at hc25; simp at hc25)).symm | exact (decide_eq_true (dM (by omega) (by omega) hall)).symm
 · refine tt ⟨rfl,⟨by omega,fun z hz => by omega⟩,?_⟩
   intro k hinv
   obtain ⟨hk,hall⟩ := hinv
   refine tt (cd (fun hc14 => ?_) (fun hc14 => ?_))
   · refine tt ⟨ix,tt ⟨ix,tt ⟨fun hc25 => ?_,fun hc25 => ?_⟩⟩⟩
     · refine tt ⟨?_,oK⟩
       first | exact (decide_eq_false (fun e => by subst e; omega)).symm | exact (decide_eq_false (fun e => by rw [e] at hc25; simp at hc25)).symm | exact (decide_eq_true (dM (by omega) (by omega) hall)).symm
     · refine tt ⟨w6,tt ⟨(k + 1),rfl,?_,(?_ : a.length - (k + 1) < a.length - k)⟩⟩
       · exact ⟨by omega,bZ hall (by simpa using hc25)⟩
       · omega
   · refine tt ⟨?_,oK⟩
     first | exact (decide_eq_false (fun e => by subst e; omega)).symm | exact (decide_eq_false (fun e => by rw [e] at hc25; simp at hc25)).symm | exact (decide_eq_true (dM (by omega) (by omega) hall)).symm
end Go.Proofs.YtifoecfajmnjjaaGreat
