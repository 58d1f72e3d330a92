/-
  The reference of package network: states, words, single processes.
-/
import Derived.Test.YtifoecfajmnjjaaGreatQNeJ
import Derived.Test.YtifoecfajmnjjaaGreatQNeK
import Derived.Test.YtifoecfajmnjjaaGreatQPrD
namespace Go.Proofs.YtifoecfajmnjjaaGreat
open Go.RowKit
set_option linter.unusedVariables false
set_option linter.unusedSimpArgs false
abbrev ly (s : Ns) : List D := [(dL 2 be aU s.procs),(dL 1 af [] s.chans)]
abbrev lz (c : Ci) : List D := [(dL 6 ga ay c.procs),(dL 5 jy ba c.chans)]
set_option maxRecDepth 100000
abbrev IH (l : List Int) (w : Int) : Ct := ⟨55,[(LI l),(i6 w)],false,(dB (cg l w))⟩
abbrev ni (l : List Int) (w : Int) : Lp (Nat) := fX [0,1,5] 0 (fun (i : Nat) => ⟨[(0,(LI l)),(1,(i6 w)),(5,(i6 (i : Int)))],[]⟩) (fun (i : Nat) => i ≤ l.length∧∀ z,z < i → cS (l.getD z 0) w = true) (fun (i : Nat) => l.length - i)
theorem kQ (l : List Int) (w : Int) (hl : l.length ≤ 9223372036854775807) : CC (IH l w) := by
 refine an.vc (V := TT 2 (GO (ni l w) 0 (∀ i,(ni l w).inv i → TT 4 (CD ((i : Int) < (l.length : Int)) (CS ((l.getD i 0) < 0) (TT 2 (IX (i : Int) l.length∧TT 2 ((True∧(decide ((l.getD i 0) < 0)) = true)∧TT 3 (false = (cg l w)∧True)))) (TT 2 (IX (i : Int) l.length∧TT 2 ((True∧(decide ((l.getD i 0) < 0)) = false)∧TT 2 (IX (i : Int) l.length∧TT 2 (CC (Dz w)∧TT 2 (CD ((l.getD i 0) > (ap w)) (TT 2 (false = (cg l w)∧True)) (TT 1 (W6 ((i + 1 : Nat) : Int)∧TT 1 (AG (ni l w) i (i + 1))))))))))) (TT 2 (true = (cg l w)∧True)))))) (.l (ni l w) 0 (fun i => .b 9 (.s 4 ((l.getD i 0) < 0) (.w 4 [(5,.val (dB true))] <| .e) (.w 4 [(5,.val (dB false)),(11,(Dz w).O)] <| .b 25 (.e) (.w 3 [(1,.val (i6 ((i + 1 : Nat) : Int)))] <| .e))) (.e))) Tryz.func55 rfl rfl rfl (by kernel_rfl) ?_
 refine tt ⟨rfl,⟨by omega,fun z hz => by omega⟩,?_⟩
 intro i hinv
 obtain ⟨hi,h3⟩ := hinv
 refine tt (cd (fun hc9 => ?_) (fun hc9 => ?_))
 · refine ⟨fun hs0 => ?_,fun hs0 => ?_⟩
   · refine tt ⟨ix,tt ⟨(vT hs0),tt ⟨?_,oK⟩⟩⟩
     first | exact (pU (i := i) (by omega) (zZ hs0)).symm | exact (pU (i := i) (by omega) (z3 hc25)).symm | exact (wR (fun z hz => h3 z (by omega))).symm
   · refine tt ⟨ix,tt ⟨(vF hs0),tt ⟨ix,tt ⟨(kO w),tt (cd (fun hc25 => ?_) (fun hc25 => ?_))⟩⟩⟩⟩
     · refine tt ⟨?_,oK⟩
       first | exact (pU (i := i) (by omega) (zZ hs0)).symm | exact (pU (i := i) (by omega) (z3 hc25)).symm | exact (wR (fun z hz => h3 z (by omega))).symm
     · refine tt ⟨w6,tt ⟨(i + 1),rfl,?_,(?_ : l.length - (i + 1) < l.length - i)⟩⟩
       · exact ⟨by omega,cy h3 (JT hs0 hc25)⟩
       · omega
 · refine tt ⟨?_,oK⟩
   first | exact (pU (i := i) (by omega) (zZ hs0)).symm | exact (pU (i := i) (by omega) (z3 hc25)).symm | exact (wR (fun z hz => h3 z (by omega))).symm
abbrev nW (c : Ci) (s : Ns) : Ct := ⟨20,[(.agg (lz c)),(.agg (ly s))],false,(dB (aP c s))⟩
abbrev nj (c : Ci) (s : Ns) : Lp (Nat) := fX [2,3,5] 2 (fun (i : Nat) => ⟨[(2,(.ptr 0 0 0 0)),(3,(.ptr 1 0 0 0)),(5,(i6 (i : Int)))],[(.var 31 (lz c)),(.var 36 (ly s))]⟩) (fun (i : Nat) => i ≤ c.procs.length∧∀ z,z < i → bO (aB c z) (xw s z) = true) (fun (i : Nat) => c.procs.length - i)
abbrev iV (c : Ci) (s : Ns) : Lp (Nat) := fX [2,3,6] 2 (fun (n : Nat) => ⟨[(2,(.ptr 0 0 0 0)),(3,(.ptr 1 0 0 0)),(6,(i6 (n : Int)))],[(.var 31 (lz c)),(.var 36 (ly s))]⟩) (fun (n : Nat) => n ≤ c.chans.length∧∀ z,z < n → jz c s z = true) (fun (n : Nat) => c.chans.length - n)
theorem b7 (c : Ci) (s : Ns) (hc : bo c) (hsm : fY s 9223372036854775807) : CC (nW c s) := by
 have hnl := hc.nl
 have hcl := hc.cl
 refine an.vc (V := TT 3 (CS ((s.procs.length : Int) = (c.procs.length : Int)) (TT 7 ((True∧(!decide ((s.procs.length : Int) = (c.procs.length : Int))) = false)∧TT 8 (CN ((s.chans.length : Int) = (c.chans.length : Int)) (TT 2 (false = (aP c s)∧True)) (TT 1 (GO (nj c s) 0 (∀ i,(nj c s).inv i → TT 5 (CD ((i : Int) < (c.procs.length : Int)) (TT 3 (IX (i : Int) c.procs.length∧TT 4 (IX (i : Int) s.procs.length∧TT 1 (CC (OA (c.procs.getD i ay) (s.procs.getD i aU))∧TT 1 (CB (!(bO (c.procs.getD i ay) (s.procs.getD i aU))) (TT 2 (false = (aP c s)∧True)) (TT 1 (W6 ((i + 1 : Nat) : Int)∧TT 1 (AG (nj c s) i (i + 1))))))))) (TT 1 (GO (iV c s) 0 (∀ n,(iV c s).inv n → TT 5 (CD ((n : Int) < (c.chans.length : Int)) (TT 3 (IX (n : Int) c.chans.length∧TT 3 (CS ((cg (s.chans.getD n []) ((c.chans.getD n ba).w)) = true) (CS (((c.chans.getD n ba).frm) ≥ 0) (CS (((c.chans.getD n ba).dst) ≥ 0) (TT 3 (IX (n : Int) s.chans.length∧TT 3 (CC (IH (s.chans.getD n []) ((c.chans.getD n ba).w))∧TT 1 ((True∧(!(cg (s.chans.getD n []) ((c.chans.getD n ba).w))) = false)∧TT 3 ((True∧(decide (((c.chans.getD n ba).frm) ≥ 0)) = true)∧TT 4 ((True∧(decide (((c.chans.getD n ba).dst) ≥ 0)) = true)∧TT 3 (IX (n : Int) s.chans.length∧TT 7 (CD ((((s.chans.getD n []).length : Nat) : Int) > ((c.chans.getD n ba).cap)) (TT 2 (false = (aP c s)∧True)) (TT 1 (W6 ((n + 1 : Nat) : Int)∧TT 1 (AG (iV c s) n (n + 1)))))))))))) (TT 3 (IX (n : Int) s.chans.length∧TT 3 (CC (IH (s.chans.getD n []) ((c.chans.getD n ba).w))∧TT 1 ((True∧(!(cg (s.chans.getD n []) ((c.chans.getD n ba).w))) = false)∧TT 3 ((True∧(decide (((c.chans.getD n ba).frm) ≥ 0)) = true)∧TT 4 ((True∧(decide (((c.chans.getD n ba).dst) ≥ 0)) = false)∧TT 3 (W6 ((n + 1 : Nat) : Int)∧TT 1 (AG (iV c s) n (n + 1)))))))))) (TT 3 (IX (n : Int) s.chans.length∧TT 3 (CC (IH (s.chans.getD n []) ((c.chans.getD n ba).w))∧TT 1 ((True∧(!(cg (s.chans.getD n []) ((c.chans.getD n ba).w))) = false)∧TT 3 ((True∧(decide (((c.chans.getD n ba).frm) ≥ 0)) = false)∧TT 5 (W6 ((n + 1 : Nat) : Int)∧TT 1 (AG (iV c s) n (n + 1))))))))) (TT 3 (IX (n : Int) s.chans.length∧TT 3 (CC (IH (s.chans.getD n []) ((c.chans.getD n ba).w))∧TT 1 ((True∧(!(cg (s.chans.getD n []) ((c.chans.getD n ba).w))) = true)∧TT 3 (false = (aP c s)∧True)))))))) (TT 2 (true = (aP c s)∧True))))))))))))) (TT 7 ((True∧(!decide ((s.procs.length : Int) = (c.procs.length : Int))) = true)∧TT 10 (false = (aP c s)∧True))))) (.s 1 ((s.procs.length : Int) = (c.procs.length : Int)) (.w 1 [(7,.val (dB false))] <| .b 23 (.e) (.l (nj c s) 0 (fun i => .b 28 (.w 6 [(10,(OA (c.procs.getD i ay) (s.procs.getD i aU)).O)] <| .b 42 (.e) (.w 5 [(1,.val (i6 ((i + 1 : Nat) : Int)))] <| .e)) (.l (iV c s) 0 (fun n => .b 47 (.s 12 ((cg (s.chans.getD n []) ((c.chans.getD n ba).w)) = true) (.s 12 (((c.chans.getD n ba).frm) ≥ 0) (.s 12 (((c.chans.getD n ba).dst) ≥ 0) (.w 12 [(7,(IH (s.chans.getD n []) ((c.chans.getD n ba).w)).O),(9,.val (dB false)),(13,.val (dB true)),(18,.val (dB true))] <| .b 84 (.e) (.w 10 [(1,.val (i6 ((n + 1 : Nat) : Int)))] <| .e)) (.w 12 [(7,(IH (s.chans.getD n []) ((c.chans.getD n ba).w)).O),(9,.val (dB false)),(13,.val (dB true)),(18,.val (dB false))] <| .w 10 [(1,.val (i6 ((n + 1 : Nat) : Int)))] <| .e)) (.w 12 [(7,(IH (s.chans.getD n []) ((c.chans.getD n ba).w)).O),(9,.val (dB false)),(13,.val (dB false))] <| .w 10 [(1,.val (i6 ((n + 1 : Nat) : Int)))] <| .e)) (.w 12 [(7,(IH (s.chans.getD n []) ((c.chans.getD n ba).w)).O),(9,.val (dB true))] <| .e)) (.e)))))) (.w 1 [(7,.val (dB true))] <| .e)) Tryz.func20 rfl rfl rfl (by kernel_rfl) ?_
 refine tt ⟨fun hs0 => ?_,fun hs0 => ?_⟩
 · refine tt ⟨(nF hs0),tt (cn (fun hc23 => ?_) (fun hc23 => ?_))⟩
   · refine tt ⟨?_,oK⟩
     first | exact (iM (by omega)).symm | exact (iO (by omega)).symm | exact (iP (i := i) (by omega) (by simpa using hc42)).symm | exact (df (n := n) (by omega) (eB (by assumption))).symm | exact (df (n := n) (by omega) (eC (by show 0 ≤ (c.chans.getD n ba).frm; omega) (by show 0 ≤ (c.chans.getD n ba).dst; omega) (by show ¬((s.chans.getD n []).length : Int) ≤ (c.chans.getD n ba).cap; omega))).symm | exact (iQ (by omega) (by omega) (fun z hz => h3 z (by omega)) (fun z hz => h4 z (by omega))).symm
   · refine tt ⟨rfl,⟨by omega,fun z hz => by omega⟩,?_⟩
     intro i hinv
     obtain ⟨hi,h3⟩ := hinv
     refine tt (cd (fun hc28 => ?_) (fun hc28 => ?_))
     · have hpk := hc.pr i (by omega)
       refine tt ⟨ix,tt ⟨ix,tt ⟨(Gr (c.procs.getD i ay) (s.procs.getD i aU) hpk),tt ⟨fun hc42 => ?_,fun hc42 => ?_⟩⟩⟩⟩
       · refine tt ⟨?_,oK⟩
         first | exact (iM (by omega)).symm | exact (iO (by omega)).symm | exact (iP (i := i) (by omega) (by simpa using hc42)).symm | exact (df (n := n) (by omega) (eB (by assumption))).symm | exact (df (n := n) (by omega) (eC (by show 0 ≤ (c.chans.getD n ba).frm; omega) (by show 0 ≤ (c.chans.getD n ba).dst; omega) (by show ¬((s.chans.getD n []).length : Int) ≤ (c.chans.getD n ba).cap; omega))).symm | exact (iQ (by omega) (by omega) (fun z hz => h3 z (by omega)) (fun z hz => h4 z (by omega))).symm
       · refine tt ⟨w6,tt ⟨(i + 1),rfl,?_,(?_ : c.procs.length - (i + 1) < c.procs.length - i)⟩⟩
         · exact ⟨by omega,cy h3 (by simpa using hc42)⟩
         · omega
     · refine tt ⟨rfl,⟨by omega,fun z hz => by omega⟩,?_⟩
       intro n hinv
       obtain ⟨hn,h4⟩ := hinv
       refine tt (cd (fun hc47 => ?_) (fun hc47 => ?_))
       · refine tt ⟨ix,tt ?_⟩
         have hlw : (s.chans.getD n []).length ≤ 9223372036854775807 := hsm n
         refine ⟨fun hs1 => ?_,fun hs1 => ?_⟩
         · refine ⟨fun hs2 => ?_,fun hs2 => ?_⟩
           · refine ⟨fun hs3 => ?_,fun hs3 => ?_⟩
             · refine tt ⟨ix,tt ⟨(kQ (s.chans.getD n []) ((c.chans.getD n ba).w) hlw),tt ⟨(mF hs1),tt ⟨(vT hs2),tt ⟨(vT hs3),tt ⟨ix,tt (cd (fun hc84 => ?_) (fun hc84 => ?_))⟩⟩⟩⟩⟩⟩
               · refine tt ⟨?_,oK⟩
                 first | exact (iM (by omega)).symm | exact (iO (by omega)).symm | exact (iP (i := i) (by omega) (by simpa using hc42)).symm | exact (df (n := n) (by omega) (eB (by assumption))).symm | exact (df (n := n) (by omega) (eC (by show 0 ≤ (c.chans.getD n ba).frm; omega) (by show 0 ≤ (c.chans.getD n ba).dst; omega) (by show ¬((s.chans.getD n []).length : Int) ≤ (c.chans.getD n ba).cap; omega))).symm | exact (iQ (by omega) (by omega) (fun z hz => h3 z (by omega)) (fun z hz => h4 z (by omega))).symm
               · refine tt ⟨w6,tt ⟨(n + 1),rfl,?_,(?_ : c.chans.length - (n + 1) < c.chans.length - n)⟩⟩
                 · refine ⟨by omega,cy h4 ?_⟩
                   first | exact tS (by assumption) (by show ¬0 ≤ (c.chans.getD n ba).frm; omega) | exact tT (by assumption) (by show ¬0 ≤ (c.chans.getD n ba).dst; omega) | exact tU (by assumption) (by show ((s.chans.getD n []).length : Int) ≤ (c.chans.getD n ba).cap; omega)
                 · omega
             · refine tt ⟨ix,tt ⟨(kQ (s.chans.getD n []) ((c.chans.getD n ba).w) hlw),tt ⟨(mF hs1),tt ⟨(vT hs2),tt ⟨(vF hs3),tt ⟨w6,tt ⟨(n + 1),rfl,?_,(?_ : c.chans.length - (n + 1) < c.chans.length - n)⟩⟩⟩⟩⟩⟩⟩
               · refine ⟨by omega,cy h4 ?_⟩
                 first | exact tS (by assumption) (by show ¬0 ≤ (c.chans.getD n ba).frm; omega) | exact tT (by assumption) (by show ¬0 ≤ (c.chans.getD n ba).dst; omega) | exact tU (by assumption) (by show ((s.chans.getD n []).length : Int) ≤ (c.chans.getD n ba).cap; omega)
               · omega
           · refine tt ⟨ix,tt ⟨(kQ (s.chans.getD n []) ((c.chans.getD n ba).w) hlw),tt ⟨(mF hs1),tt ⟨(vF hs2),tt ⟨w6,tt ⟨(n + 1),rfl,?_,(?_ : c.chans.length - (n + 1) < c.chans.length - n)⟩⟩⟩⟩⟩⟩
             · refine ⟨by omega,cy h4 ?_⟩
               first | exact tS (by assumption) (by show ¬0 ≤ (c.chans.getD n ba).frm; omega) | exact tT (by assumption) (by show ¬0 ≤ (c.chans.getD n ba).dst; omega) | exact tU (by assumption) (by show ((s.chans.getD n []).length : Int) ≤ (c.chans.getD n ba).cap; omega)
             · omega
         · refine tt ⟨ix,tt ⟨(kQ (s.chans.getD n []) ((c.chans.getD n ba).w) hlw),tt ⟨(mT hs1),tt ⟨?_,oK⟩⟩⟩⟩
           first | exact (iM (by omega)).symm | exact (iO (by omega)).symm | exact (iP (i := i) (by omega) (by simpa using hc42)).symm | exact (df (n := n) (by omega) (eB (by assumption))).symm | exact (df (n := n) (by omega) (eC (by show 0 ≤ (c.chans.getD n ba).frm; omega) (by show 0 ≤ (c.chans.getD n ba).dst; omega) (by show ¬((s.chans.getD n []).length : Int) ≤ (c.chans.getD n ba).cap; omega))).symm | exact (iQ (by omega) (by omega) (fun z hz => h3 z (by omega)) (fun z hz => h4 z (by omega))).symm
       · refine tt ⟨?_,oK⟩
         first | exact (iM (by omega)).symm | exact (iO (by omega)).symm | exact (iP (i := i) (by omega) (by simpa using hc42)).symm | exact (df (n := n) (by omega) (eB (by assumption))).symm | exact (df (n := n) (by omega) (eC (by show 0 ≤ (c.chans.getD n ba).frm; omega) (by show 0 ≤ (c.chans.getD n ba).dst; omega) (by show ¬((s.chans.getD n []).length : Int) ≤ (c.chans.getD n ba).cap; omega))).symm | exact (iQ (by omega) (by omega) (fun z hz => h3 z (by omega)) (fun z hz => h4 z (by omega))).symm
 · refine tt ⟨(nT hs0),tt ⟨?_,oK⟩⟩
   first | exact (iM (by omega)).symm | exact (iO (by omega)).symm | exact (iP (i := i) (by omega) (by simpa using hc42)).symm | exact (df (n := n) (by omega) (eB (by assumption))).symm | exact (df (n := n) (by omega) (eC (by show 0 ≤ (c.chans.getD n ba).frm; omega) (by show 0 ≤ (c.chans.getD n ba).dst; omega) (by show ¬((s.chans.getD n []).length : Int) ≤ (c.chans.getD n ba).cap; omega))).symm | exact (iQ (by omega) (by omega) (fun z hz => h3 z (by omega)) (fun z hz => h4 z (by omega))).symm
abbrev LF (c : Ci) : Ct := ⟨27,[(.agg (lz c))],true,(.agg [(dL 2 be aU ((az c).procs)),(dL 1 af [] ((az c).chans))])⟩
abbrev p9 (c : Ci) : Lp (Nat) := fX [1,2,3,4] 5 (fun (i : Nat) => ⟨[(1,(.ptr 0 0 0 0)),(2,(.ptr 1 0 0 0)),(3,(.ptr 3 0 0 0)),(4,(i6 (i : Int)))],[(.var 31 (lz c)),(.var 36 [.nils,.nils]),(.arr 43 1 af [] (List.replicate c.chans.length ([] : List Int))),(.var 36 [(.own 4),(.own 2)]),(.arr 45 2 be aU (ao (fun i => bg (aB c i)) i))]⟩) (fun (i : Nat) => i ≤ c.procs.length) (fun (i : Nat) => c.procs.length - i)
theorem ue (c : Ci) (hc : bo c) : CC (LF c) := by
 have hnl := hc.nl
 have hcl := hc.cl
 refine an.vc (V := TT 5 ((((0 : Int) ≤ (c.chans.length : Int)∧(c.chans.length : Int) ≤ (c.chans.length : Int)∧(c.chans.length : Int) ≤ 137438953472)∧(List.replicate c.chans.length ([] : List Int)).length = c.chans.length∧∀ x ∈ (List.replicate c.chans.length ([] : List Int)),di [.nils] (af x))∧TT 4 (GO (p9 c) 0 (∀ i,(p9 c).inv i → TT 5 (CD ((i : Int) < (c.procs.length : Int)) (TT 5 (IX (i : Int) c.procs.length∧TT 1 (CC (OB (c.procs.getD i ay))∧aq [[(LI ((bg (c.procs.getD i ay)).regs)),(dL 1 af [] ((bg (c.procs.getD i ay)).mems))]] ([(⟨(bg (c.procs.getD i ay)).regs,(bg (c.procs.getD i ay)).mems⟩ : Ps)].map be)∧((ao (fun i => bg (aB c i)) i).length + ([(⟨(bg (c.procs.getD i ay)).regs,(bg (c.procs.getD i ay)).mems⟩ : Ps)].map be).length ≤ 137438953472∧(ao (fun i => bg (aB c i)) i).map be ++ [(⟨(bg (c.procs.getD i ay)).regs,(bg (c.procs.getD i ay)).mems⟩ : Ps)].map be = (ao (fun i => bg (aB c i)) (i + 1)).map be)∧TT 3 (W6 ((i + 1 : Nat) : Int)∧TT 1 (AG (p9 c) i (i + 1)))))) (TT 3 ((ao (fun i => bg (aB c i)) i).map be = ((az c).procs).map be∧(List.replicate c.chans.length ([] : List Int)).map af = ((az c).chans).map af∧True))))))) (.w 1 [(3,.box 43 1 af [] (List.replicate c.chans.length ([] : List Int)))] <| .g 2 3 0 45 2 be aU <| .l (p9 c) 0 (fun i => .b 14 (.w 5 [(7,(OB (c.procs.getD i ay)).O),(8,.box 45 2 be aU [(⟨(bg (c.procs.getD i ay)).regs,(bg (c.procs.getD i ay)).mems⟩ : Ps)]),(9,.box 45 2 be aU (ao (fun i => bg (aB c i)) (i + 1)))] <| .w 4 [(1,.val (i6 ((i + 1 : Nat) : Int)))] <| .e) (.e))) Tryz.func27 rfl rfl rfl (by kernel_rfl) ?_
 refine tt ⟨⟨by omega,by simp,fun x hx => by rw [List.eq_of_mem_replicate hx]; exact ⟨rfl,oK⟩⟩,tt ⟨rfl,(by omega),?_⟩⟩
 intro i hinv
 have hi := hinv
 refine tt (cd (fun hc14 => ?_) (fun hc14 => ?_))
 · have hpk := hc.pr i (by omega)
   refine tt ⟨ix,tt ⟨(Gs (c.procs.getD i ay) hpk),⟨⟨⟨rfl,rfl,oK⟩,oK⟩,⟨(i3 (f := fun i => bg (aB c i)) (by omega)),tt ⟨w6,tt ⟨(i + 1),rfl,(?_ : (i + 1) ≤ c.procs.length),(?_ : c.procs.length - (i + 1) < c.procs.length - i)⟩⟩⟩⟩⟩⟩
   · omega
   · omega
 · refine tt ⟨(congrArg _ (?_ : (ao (fun i => bg (aB c i)) i) = ((az c).procs))),(congrArg _ (?_ : (List.replicate c.chans.length ([] : List Int)) = ((az c).chans))),oK⟩
   · rw [show i = c.procs.length by omega]; rfl
   · rfl
abbrev KC (s : Ns) (n : Int) (l : List Int) : Ct := ⟨60,[(.agg (ly s)),(i6 n),(LI l)],true,(.agg [(dL 2 be aU ((cz s n.toNat l).procs)),(dL 1 af [] ((cz s n.toNat l).chans))])⟩
theorem z6 (s : Ns) (n : Int) (l : List Int) (h1 : 0 ≤ n) (h2 : n < s.chans.length) (h3 : s.chans.length ≤ 1000000) : CC (KC s n l) := by
 refine an.vc (V := TT 4 (aq [] (([] : List (List Int)).map af)∧TT 2 ((([] : List (List Int)).length + (s.chans.map af).length ≤ 137438953472∧([] : List (List Int)).map af ++ s.chans.map af = s.chans.map af)∧TT 7 (IX n s.chans.length∧(n.toNat < s.chans.length∧(s.chans.map af).set n.toNat ((af (s.chans.getD n.toNat [])).take 0 ++ [(.sl 1 (ah .i64) 0 l)] ++ (af (s.chans.getD n.toNat [])).drop (0 + 1)) = (s.chans.set n.toNat l).map af)∧TT 3 (s.procs.map be = ((cz s n.toNat l).procs).map be∧(s.chans.set n.toNat l).map af = ((cz s n.toNat l).chans).map af∧True))))) (.w 1 [(2,.app false 43 1 af [] ([] : List (List Int))),(5,.app false 43 1 af [] s.chans)] <| .w 2 [(5,.box 43 1 af [] (s.chans.set n.toNat l))] <| .e) Tryz.func60 rfl rfl rfl (by kernel_rfl) ?_
 refine tt ⟨oK,tt ⟨⟨by simp only [List.length_map,List.length_cons,List.length_nil,List.length_append,List.length_drop,List.length_take]; first | omega | (simp; first | done | omega),by simp only [List.map_append,List.map_nil,List.append_nil,List.nil_append]⟩,tt ⟨ix,⟨⟨om,by simp only [List.map_set]; rfl⟩,tt ⟨(congrArg _ (?_ : s.procs = ((cz s n.toNat l).procs))),(congrArg _ (?_ : (s.chans.set n.toNat l) = ((cz s n.toNat l).chans))),oK⟩⟩⟩⟩⟩
 all_goals (rfl)
abbrev J5 (c : Ci) (s : Ns) (n : Int) (ws : List Int) : Ct := ⟨29,[(.agg (lz c)),(.agg (ly s)),(.agg [(i6 n),(LI ws)])],true,(.agg [(dL 2 be aU (((am c s n ws).1).procs)),(dL 1 af [] (((am c s n ws).1).chans)),(LI ([] : List Int)),(i6 ((am c s n ws).2))])⟩
theorem sJ (c : Ci) (s : Ns) (n : Int) (ws : List Int) (hc : bo c) (hs : bN c s) (hsm : fY s 4294967296) (hw : ws.length ≤ 4294967296) : CC (J5 c s n ws) := by
 have hnl := hc.nl
 have hcl := hc.cl
 have hl1 := hs.pl
 have hl2 := hs.cl
 refine an.vc (V := TT 4 (CS (n < 0) (TT 3 ((True∧(decide (n < 0)) = true)∧TT 8 ((((am c s n ws).1).procs) = []∧(((am c s n ws).1).chans) = []∧([] : List Int) = []∧(1 : Int) = ((am c s n ws).2)∧True))) (CS (n ≥ (c.chans.length : Int)) (TT 3 ((True∧(decide (n < 0)) = false)∧TT 7 ((True∧(decide (n ≥ (c.chans.length : Int))) = true)∧TT 6 ((((am c s n ws).1).procs) = []∧(((am c s n ws).1).chans) = []∧([] : List Int) = []∧(1 : Int) = ((am c s n ws).2)∧True)))) (CS (((c.chans.getD n.toNat ba).frm) = (-1)) (TT 3 ((True∧(decide (n < 0)) = false)∧TT 7 ((True∧(decide (n ≥ (c.chans.length : Int))) = false)∧TT 4 (IX n c.chans.length∧TT 4 ((True∧(!decide (((c.chans.getD n.toNat ba).frm) = (-1))) = false)∧TT 6 (IX n c.chans.length∧TT 2 (CC (IH ws ((c.chans.getD n.toNat ba).w))∧TT 2 (CB (!(cg ws ((c.chans.getD n.toNat ba).w))) (TT 3 ((((am c s n ws).1).procs) = []∧(((am c s n ws).1).chans) = []∧([] : List Int) = []∧(1 : Int) = ((am c s n ws).2)∧True)) (TT 3 (aq [] (([] : List Int).map (ah .i64))∧TT 4 (IX n s.chans.length∧TT 1 ((([] : List Int).length + ((s.chans.getD n.toNat []).map (ah .i64)).length ≤ 137438953472∧([] : List Int).map (ah .i64) ++ (s.chans.getD n.toNat []).map (ah .i64) = (s.chans.getD n.toNat []).map (ah .i64))∧TT 2 (((s.chans.getD n.toNat []).length + (ws.map (ah .i64)).length ≤ 137438953472∧(s.chans.getD n.toNat []).map (ah .i64) ++ ws.map (ah .i64) = ((s.chans.getD n.toNat []) ++ ws).map (ah .i64))∧CC (KC s n ((s.chans.getD n.toNat []) ++ ws))∧TT 3 (((cz s n.toNat ((s.chans.getD n.toNat []) ++ ws)).procs).map be = (((am c s n ws).1).procs).map be∧((cz s n.toNat ((s.chans.getD n.toNat []) ++ ws)).chans).map af = (((am c s n ws).1).chans).map af∧([] : List Int) = []∧(0 : Int) = ((am c s n ws).2)∧True)))))))))))))) (TT 3 ((True∧(decide (n < 0)) = false)∧TT 7 ((True∧(decide (n ≥ (c.chans.length : Int))) = false)∧TT 4 (IX n c.chans.length∧TT 4 ((True∧(!decide (((c.chans.getD n.toNat ba).frm) = (-1))) = true)∧TT 4 ((((am c s n ws).1).procs) = []∧(((am c s n ws).1).chans) = []∧([] : List Int) = []∧(1 : Int) = ((am c s n ws).2)∧True)))))))))) (.s 1 (n < 0) (.w 1 [(3,.val (dB true))] <| .e) (.s 1 (n ≥ (c.chans.length : Int)) (.w 1 [(3,.val (dB false)),(11,.val (dB true))] <| .e) (.s 1 (((c.chans.getD n.toNat ba).frm) = (-1)) (.w 1 [(3,.val (dB false)),(11,.val (dB false)),(21,.val (dB false)),(31,(IH ws ((c.chans.getD n.toNat ba).w)).O)] <| .b 40 (.e) (.w 3 [(3,.app false 3 1 (ah .i64) 0 ([] : List Int)),(10,.app false 3 1 (ah .i64) 0 (s.chans.getD n.toNat [])),(13,.app true 3 1 (ah .i64) 0 ((s.chans.getD n.toNat []) ++ ws)),(14,(KC s n ((s.chans.getD n.toNat []) ++ ws)).O)] <| .e)) (.w 1 [(3,.val (dB false)),(11,.val (dB false)),(21,.val (dB true))] <| .e)))) Tryz.func29 rfl rfl rfl (by kernel_rfl) ?_
 refine tt ⟨fun hs0 => ?_,fun hs0 => ?_⟩
 · refine tt ⟨(vT hs0),tt ⟨?_,?_,?_,?_,oK⟩⟩
   all_goals (all_goals (first | rfl | (rw [eN (dq (by omega))]) | (rw [eN (dt (by omega))]) | (rw [eN (fA (by show ¬(c.chans.getD n.toNat ba).frm = -1; omega))]) | (rw [gr (by simpa using hc40)]) | (rw [kd (dQ (by omega) (by omega) (show (c.chans.getD n.toNat ba).frm = -1 by omega)) (by simpa using hc40)])))
 · refine ⟨fun hs1 => ?_,fun hs1 => ?_⟩
   · refine tt ⟨(vF hs0),tt ⟨(vT hs1),tt ⟨?_,?_,?_,?_,oK⟩⟩⟩
     all_goals (all_goals (first | rfl | (rw [eN (dq (by omega))]) | (rw [eN (dt (by omega))]) | (rw [eN (fA (by show ¬(c.chans.getD n.toNat ba).frm = -1; omega))]) | (rw [gr (by simpa using hc40)]) | (rw [kd (dQ (by omega) (by omega) (show (c.chans.getD n.toNat ba).frm = -1 by omega)) (by simpa using hc40)])))
   · refine ⟨fun hs2 => ?_,fun hs2 => ?_⟩
     · refine tt ⟨(vF hs0),tt ⟨(vF hs1),tt ⟨ix,tt ⟨(nF hs2),tt ⟨ix,tt ⟨(kQ ws ((c.chans.getD n.toNat ba).w) (by omega)),tt ⟨fun hc40 => ?_,fun hc40 => ?_⟩⟩⟩⟩⟩⟩⟩
       · refine tt ⟨?_,?_,?_,?_,oK⟩
         all_goals (all_goals (first | rfl | (rw [eN (dq (by omega))]) | (rw [eN (dt (by omega))]) | (rw [eN (fA (by show ¬(c.chans.getD n.toNat ba).frm = -1; omega))]) | (rw [gr (by simpa using hc40)]) | (rw [kd (dQ (by omega) (by omega) (show (c.chans.getD n.toNat ba).frm = -1 by omega)) (by simpa using hc40)])))
       · have hlw : (s.chans.getD n.toNat []).length ≤ 4294967296 := hsm n.toNat
         refine tt ⟨oK,tt ⟨ix,tt ⟨⟨by simp only [List.length_map,List.length_cons,List.length_nil,List.length_append,List.length_drop,List.length_take]; first | omega | (simp; first | done | omega),by simp only [List.map_append,List.map_nil,List.append_nil,List.nil_append]⟩,tt ⟨⟨by simp only [List.length_map,List.length_cons,List.length_nil,List.length_append,List.length_drop,List.length_take]; first | omega | (simp; first | done | omega),by simp only [List.map_append,List.map_nil,List.append_nil,List.nil_append]⟩,⟨(z6 s n ((s.chans.getD n.toNat []) ++ ws) om om om),tt ⟨(congrArg _ (?_ : ((cz s n.toNat ((s.chans.getD n.toNat []) ++ ws)).procs) = (((am c s n ws).1).procs))),(congrArg _ (?_ : ((cz s n.toNat ((s.chans.getD n.toNat []) ++ ws)).chans) = (((am c s n ws).1).chans))),?_,?_,oK⟩⟩⟩⟩⟩⟩
         all_goals (all_goals (first | rfl | (rw [eN (dq (by omega))]) | (rw [eN (dt (by omega))]) | (rw [eN (fA (by show ¬(c.chans.getD n.toNat ba).frm = -1; omega))]) | (rw [gr (by simpa using hc40)]) | (rw [kd (dQ (by omega) (by omega) (show (c.chans.getD n.toNat ba).frm = -1 by omega)) (by simpa using hc40)])))
     · refine tt ⟨(vF hs0),tt ⟨(vF hs1),tt ⟨ix,tt ⟨(nT hs2),tt ⟨?_,?_,?_,?_,oK⟩⟩⟩⟩⟩
       all_goals (all_goals (first | rfl | (rw [eN (dq (by omega))]) | (rw [eN (dt (by omega))]) | (rw [eN (fA (by show ¬(c.chans.getD n.toNat ba).frm = -1; omega))]) | (rw [gr (by simpa using hc40)]) | (rw [kd (dQ (by omega) (by omega) (show (c.chans.getD n.toNat ba).frm = -1 by omega)) (by simpa using hc40)])))
abbrev M5 (c : Ci) (s : Ns) (n : Int) : Ct := ⟨35,[(.agg (lz c)),(.agg (ly s)),(i6 n)],true,(.agg [(dL 2 be aU (((aF c s n).2.1).procs)),(dL 1 af [] (((aF c s n).2.1).chans)),(LI ((aF c s n).1)),(i6 ((aF c s n).2.2))])⟩
theorem BE (c : Ci) (s : Ns) (n : Int) (hc : bo c) (hs : bN c s) (hsm : fY s 4294967296) : CC (M5 c s n) := by
 have hnl := hc.nl
 have hcl := hc.cl
 have hl1 := hs.pl
 have hl2 := hs.cl
 refine an.vc (V := TT 3 (CS (n < 0) (TT 2 ((True∧(decide (n < 0)) = true)∧TT 18 ((((aF c s n).2.1).procs) = []∧(((aF c s n).2.1).chans) = []∧((aF c s n).1) = []∧(1 : Int) = ((aF c s n).2.2)∧True))) (CS (n ≥ (c.chans.length : Int)) (TT 2 ((True∧(decide (n < 0)) = false)∧TT 6 ((True∧(decide (n ≥ (c.chans.length : Int))) = true)∧TT 11 ((((aF c s n).2.1).procs) = []∧(((aF c s n).2.1).chans) = []∧((aF c s n).1) = []∧(1 : Int) = ((aF c s n).2.2)∧True)))) (TT 2 ((True∧(decide (n < 0)) = false)∧TT 6 ((True∧(decide (n ≥ (c.chans.length : Int))) = false)∧TT 3 (IX n c.chans.length∧TT 4 (CN (((c.chans.getD n.toNat ba).dst) = (-1)) (TT 3 ((((aF c s n).2.1).procs) = []∧(((aF c s n).2.1).chans) = []∧((aF c s n).1) = []∧(1 : Int) = ((aF c s n).2.2)∧True)) (TT 2 ((xH [] [(.agg (ly s)),(i6 n),.nils] (KC s n []).as∧CC (KC s n []))∧TT 3 (IX n s.chans.length∧TT 4 (((cz s n.toNat []).procs).map be = (((aF c s n).2.1).procs).map be∧((cz s n.toNat []).chans).map af = (((aF c s n).2.1).chans).map af∧(s.chans.getD n.toNat []).map (ah .i64) = ((aF c s n).1).map (ah .i64)∧(0 : Int) = ((aF c s n).2.2)∧True)))))))))))) (.s 1 (n < 0) (.w 1 [(2,.val (dB true))] <| .e) (.s 1 (n ≥ (c.chans.length : Int)) (.w 1 [(2,.val (dB false)),(9,.val (dB true))] <| .e) (.w 1 [(2,.val (dB false)),(9,.val (dB false))] <| .b 24 (.e) (.w 3 [(2,(KC s n []).O')] <| .e)))) Tryz.func35 rfl rfl rfl (by kernel_rfl) ?_
 refine tt ⟨fun hs0 => ?_,fun hs0 => ?_⟩
 · refine tt ⟨(vT hs0),tt ⟨?_,?_,?_,?_,oK⟩⟩
   all_goals (all_goals (first | rfl | (rw [eX (dq (by omega))]) | (rw [eX (dt (by omega))]) | (rw [eX (fA (by show ¬(c.chans.getD n.toNat ba).dst = -1; omega))]) | (rw [eD (dQ (by omega) (by omega) (show (c.chans.getD n.toNat ba).dst = -1 by omega))]; rfl) | (rw [eD (dQ (by omega) (by omega) (show (c.chans.getD n.toNat ba).dst = -1 by omega))])))
 · refine ⟨fun hs1 => ?_,fun hs1 => ?_⟩
   · refine tt ⟨(vF hs0),tt ⟨(vT hs1),tt ⟨?_,?_,?_,?_,oK⟩⟩⟩
     all_goals (all_goals (first | rfl | (rw [eX (dq (by omega))]) | (rw [eX (dt (by omega))]) | (rw [eX (fA (by show ¬(c.chans.getD n.toNat ba).dst = -1; omega))]) | (rw [eD (dQ (by omega) (by omega) (show (c.chans.getD n.toNat ba).dst = -1 by omega))]; rfl) | (rw [eD (dQ (by omega) (by omega) (show (c.chans.getD n.toNat ba).dst = -1 by omega))])))
   · refine tt ⟨(vF hs0),tt ⟨(vF hs1),tt ⟨ix,tt (cn (fun hc24 => ?_) (fun hc24 => ?_))⟩⟩⟩
     · refine tt ⟨?_,?_,?_,?_,oK⟩
       all_goals (all_goals (first | rfl | (rw [eX (dq (by omega))]) | (rw [eX (dt (by omega))]) | (rw [eX (fA (by show ¬(c.chans.getD n.toNat ba).dst = -1; omega))]) | (rw [eD (dQ (by omega) (by omega) (show (c.chans.getD n.toNat ba).dst = -1 by omega))]; rfl) | (rw [eD (dQ (by omega) (by omega) (show (c.chans.getD n.toNat ba).dst = -1 by omega))])))
     · refine tt ⟨⟨⟨⟨rfl,rfl,oK⟩,rfl,rfl,oK⟩,(z6 s n [] om om om)⟩,tt ⟨ix,tt ⟨(congrArg _ (?_ : ((cz s n.toNat []).procs) = (((aF c s n).2.1).procs))),(congrArg _ (?_ : ((cz s n.toNat []).chans) = (((aF c s n).2.1).chans))),(congrArg _ (?_ : (s.chans.getD n.toNat []) = ((aF c s n).1))),?_,oK⟩⟩⟩
       all_goals (all_goals (first | rfl | (rw [eX (dq (by omega))]) | (rw [eX (dt (by omega))]) | (rw [eX (fA (by show ¬(c.chans.getD n.toNat ba).dst = -1; omega))]) | (rw [eD (dQ (by omega) (by omega) (show (c.chans.getD n.toNat ba).dst = -1 by omega))]; rfl) | (rw [eD (dQ (by omega) (by omega) (show (c.chans.getD n.toNat ba).dst = -1 by omega))])))
abbrev OH (c : Ci) (s : Ns) (p : Nat) : Ct := ⟨51,[(.agg (lz c)),(.agg (ly s)),(i6 (p : Int))],true,(.agg [(dL 2 bx aK (cT c s p)),(LB (dK c s p))])⟩
abbrev o0 (c : Ci) (s : Ns) (p : Nat) : Lp (Nat) := fX [2,3,4,6,7,8] 5 (fun (i : Nat) => ⟨[(2,(i6 (p : Int))),(3,(.ptr 0 0 0 0)),(4,(.ptr 1 0 0 0)),(6,(.ptr 2 0 0 0)),(7,(.ptr 3 0 0 0)),(8,(i6 (i : Int)))],[(.var 31 (lz c)),(.var 36 (ly s)),(.var 121 [.nils,.nils]),(.var 121 [(.own 4),.nils]),(.arr 68 2 bx aK (ao (cH c s p) i))]⟩) (fun (i : Nat) => i ≤ (c.procs.getD p ay).takes.length) (fun (i : Nat) => (c.procs.getD p ay).takes.length - i)
abbrev o6 (c : Ci) (s : Ns) (p : Nat) (i : Nat) : Lp (Nat) := fX [2,3,4,6,7,11] 6 (fun (m : Nat) => ⟨[(2,(i6 (p : Int))),(3,(.ptr 0 0 0 0)),(4,(.ptr 1 0 0 0)),(6,(.ptr 2 0 0 0)),(7,(.ptr 3 0 0 0)),(11,(i6 (m : Int)))],[(.var 31 (lz c)),(.var 36 (ly s)),(.var 121 [.nils,.nils]),(.var 121 [(.own 4),(.own 5)]),(.arr 68 2 bx aK (ao (cH c s p) i)),(.arr 4 1 aR false (ao (cI c s p) m))]⟩) (fun (m : Nat) => m ≤ (c.procs.getD p ay).puts.length) (fun (m : Nat) => (c.procs.getD p ay).puts.length - m)
theorem II (c : Ci) (s : Ns) (p : Nat) (hc : bo c) (hs : bN c s) (hp : p < c.procs.length) : CC (OH c s p) := by
 have hnl := hc.nl
 have hcl := hc.cl
 have hpk : iA (c.procs.getD p ay) := hc.pr p hp
 have hl1 := hs.pl
 have hl2 := hs.cl
 have ht1 : (c.procs.getD p ay).takes.length ≤ 100 := hpk.tl
 have ht2 : (c.procs.getD p ay).puts.length ≤ 100 := hpk.pl
 refine an.vc (V := TT 7 (GO (o0 c s p) 0 (∀ i,(o0 c s p).inv i → TT 4 (IX (p : Int) c.procs.length∧TT 4 (CD ((i : Int) < ((((c.procs.getD p ay).takes).length : Nat) : Int)) (TT 5 (IX (p : Int) c.procs.length∧TT 3 (IX (i : Int) (((c.procs.getD p ay).takes).length)∧TT 2 (IX ((((c.procs.getD p ay).takes).getD i bM).chan) s.chans.length∧TT 8 (CD ((((s.chans.getD (((((c.procs.getD p ay).takes).getD i bM).chan).toNat) []).length : Nat) : Int) > 0) (TT 1 (IX 0 ((s.chans.getD (((((c.procs.getD p ay).takes).getD i bM).chan).toNat) []).length)∧TT 6 (aq [[(dB true),(i6 ((s.chans.getD (((((c.procs.getD p ay).takes).getD i bM).chan).toNat) []).getD 0 0))]] ([(⟨true,((s.chans.getD (((((c.procs.getD p ay).takes).getD i bM).chan).toNat) []).getD 0 0)⟩ : Hd)].map bx)∧((ao (cH c s p) i).length + ([(⟨true,((s.chans.getD (((((c.procs.getD p ay).takes).getD i bM).chan).toNat) []).getD 0 0)⟩ : Hd)].map bx).length ≤ 137438953472∧(ao (cH c s p) i).map bx ++ [(⟨true,((s.chans.getD (((((c.procs.getD p ay).takes).getD i bM).chan).toNat) []).getD 0 0)⟩ : Hd)].map bx = (ao (cH c s p) (i + 1)).map bx)∧TT 3 (W6 ((i + 1 : Nat) : Int)∧TT 1 (AG (o0 c s p) i (i + 1)))))) (TT 3 (aq [[(dB false),(i6 0)]] ([(⟨false,0⟩ : Hd)].map bx)∧((ao (cH c s p) i).length + ([(⟨false,0⟩ : Hd)].map bx).length ≤ 137438953472∧(ao (cH c s p) i).map bx ++ [(⟨false,0⟩ : Hd)].map bx = (ao (cH c s p) (i + 1)).map bx)∧TT 3 (W6 ((i + 1 : Nat) : Int)∧TT 1 (AG (o0 c s p) i (i + 1)))))))))) (TT 1 (GO (o6 c s p i) 0 (∀ m,(o6 c s p i).inv m → TT 4 (IX (p : Int) c.procs.length∧TT 4 (CD ((m : Int) < ((((c.procs.getD p ay).puts).length : Nat) : Int)) (TT 3 (IX (p : Int) c.procs.length∧TT 3 (IX (m : Int) (((c.procs.getD p ay).puts).length)∧TT 3 (CS (((c.chans.getD (((((c.procs.getD p ay).puts).getD m bj).chan).toNat) ba).dst) = (-1)) (TT 5 (IX ((((c.procs.getD p ay).puts).getD m bj).chan) c.chans.length∧TT 3 ((True∧(decide (((c.chans.getD (((((c.procs.getD p ay).puts).getD m bj).chan).toNat) ba).dst) = (-1))) = true)∧TT 1 (aq [[(dB true)]] ([true].map aR)∧((ao (cI c s p) m).length + ([true].map aR).length ≤ 137438953472∧(ao (cI c s p) m).map aR ++ [true].map aR = (ao (cI c s p) (m + 1)).map aR)∧TT 3 (W6 ((m + 1 : Nat) : Int)∧TT 1 (AG (o6 c s p i) m (m + 1))))))) (TT 5 (IX ((((c.procs.getD p ay).puts).getD m bj).chan) c.chans.length∧TT 3 ((True∧(decide (((c.chans.getD (((((c.procs.getD p ay).puts).getD m bj).chan).toNat) ba).dst) = (-1))) = false)∧TT 3 (IX ((((c.procs.getD p ay).puts).getD m bj).chan) s.chans.length∧TT 5 (IX ((((c.procs.getD p ay).puts).getD m bj).chan) c.chans.length∧TT 4 (aq [[(dB (decide ((((s.chans.getD (((((c.procs.getD p ay).puts).getD m bj).chan).toNat) []).length : Nat) : Int) < ((c.chans.getD (((((c.procs.getD p ay).puts).getD m bj).chan).toNat) ba).cap))))]] ([decide ((((s.chans.getD (((((c.procs.getD p ay).puts).getD m bj).chan).toNat) []).length : Nat) : Int) < ((c.chans.getD (((((c.procs.getD p ay).puts).getD m bj).chan).toNat) ba).cap))].map aR)∧((ao (cI c s p) m).length + ([decide ((((s.chans.getD (((((c.procs.getD p ay).puts).getD m bj).chan).toNat) []).length : Nat) : Int) < ((c.chans.getD (((((c.procs.getD p ay).puts).getD m bj).chan).toNat) ba).cap))].map aR).length ≤ 137438953472∧(ao (cI c s p) m).map aR ++ [decide ((((s.chans.getD (((((c.procs.getD p ay).puts).getD m bj).chan).toNat) []).length : Nat) : Int) < ((c.chans.getD (((((c.procs.getD p ay).puts).getD m bj).chan).toNat) ba).cap))].map aR = (ao (cI c s p) (m + 1)).map aR)∧TT 3 (W6 ((m + 1 : Nat) : Int)∧TT 1 (AG (o6 c s p i) m (m + 1))))))))))))) (TT 3 ((ao (cH c s p) i).map bx = (cT c s p).map bx∧(ao (cI c s p) m).map aR = (dK c s p).map aR∧True)))))))))))) (.g 2 3 0 68 2 bx aK <| .l (o0 c s p) 0 (fun i => .b 22 (.b 42 (.w 9 [(3,.box 68 2 bx aK [(⟨true,((s.chans.getD (((((c.procs.getD p ay).takes).getD i bM).chan).toNat) []).getD 0 0)⟩ : Hd)]),(4,.box 68 2 bx aK (ao (cH c s p) (i + 1)))] <| .w 4 [(1,.val (i6 ((i + 1 : Nat) : Int)))] <| .e) (.w 9 [(3,.box 68 2 bx aK [(⟨false,0⟩ : Hd)]),(4,.box 68 2 bx aK (ao (cH c s p) (i + 1)))] <| .w 4 [(1,.val (i6 ((i + 1 : Nat) : Int)))] <| .e)) (.g 10 3 1 4 1 aR false <| .l (o6 c s p i) 0 (fun m => .b 61 (.s 14 (((c.chans.getD (((((c.procs.getD p ay).puts).getD m bj).chan).toNat) ba).dst) = (-1)) (.w 14 [(9,.val (dB true)),(24,.box 4 1 aR false [true]),(25,.box 4 1 aR false (ao (cI c s p) (m + 1)))] <| .w 12 [(1,.val (i6 ((m + 1 : Nat) : Int)))] <| .e) (.w 14 [(9,.val (dB false)),(24,.box 4 1 aR false [decide ((((s.chans.getD (((((c.procs.getD p ay).puts).getD m bj).chan).toNat) []).length : Nat) : Int) < ((c.chans.getD (((((c.procs.getD p ay).puts).getD m bj).chan).toNat) ba).cap))]),(25,.box 4 1 aR false (ao (cI c s p) (m + 1)))] <| .w 12 [(1,.val (i6 ((m + 1 : Nat) : Int)))] <| .e)) (.e))))) Tryz.func51 rfl rfl rfl (by kernel_rfl) ?_
 refine tt ⟨rfl,(by omega),?_⟩
 intro i hinv
 have hi := hinv
 refine tt ⟨ix,tt (cd (fun hc22 => ?_) (fun hc22 => ?_))⟩
 · have htk : 0 ≤ ((c.procs.getD p ay).takes.getD i bM).chan∧((c.procs.getD p ay).takes.getD i bM).chan < c.chans.length := ⟨(hc.tk p hp i (show i < (c.procs.getD p ay).takes.length by omega)).1,(hc.tk p hp i (show i < (c.procs.getD p ay).takes.length by omega)).2.1⟩
   refine tt ⟨ix,tt ⟨ix,tt ⟨ix,tt (cd (fun hc42 => ?_) (fun hc42 => ?_))⟩⟩⟩
   · refine tt ⟨ix,tt ⟨⟨⟨rfl,rfl,oK⟩,oK⟩,⟨(bS (by omega) (by first | exact (if_pos (show 0 < (s.chans.getD ((c.procs.getD p ay).takes.getD i bM).chan.toNat []).length by omega)).symm | exact (if_neg (show ¬0 < (s.chans.getD ((c.procs.getD p ay).takes.getD i bM).chan.toNat []).length by omega)).symm)),tt ⟨w6,tt ⟨(i + 1),rfl,(?_ : (i + 1) ≤ (c.procs.getD p ay).takes.length),(?_ : (c.procs.getD p ay).takes.length - (i + 1) < (c.procs.getD p ay).takes.length - i)⟩⟩⟩⟩⟩
     · omega
     · omega
   · refine tt ⟨⟨⟨rfl,rfl,oK⟩,oK⟩,⟨(bS (by omega) (by first | exact (if_pos (show 0 < (s.chans.getD ((c.procs.getD p ay).takes.getD i bM).chan.toNat []).length by omega)).symm | exact (if_neg (show ¬0 < (s.chans.getD ((c.procs.getD p ay).takes.getD i bM).chan.toNat []).length by omega)).symm)),tt ⟨w6,tt ⟨(i + 1),rfl,(?_ : (i + 1) ≤ (c.procs.getD p ay).takes.length),(?_ : (c.procs.getD p ay).takes.length - (i + 1) < (c.procs.getD p ay).takes.length - i)⟩⟩⟩⟩
     · omega
     · omega
 · refine tt ⟨rfl,(by omega),?_⟩
   intro m hinv
   have hm := hinv
   refine tt ⟨ix,tt (cd (fun hc61 => ?_) (fun hc61 => ?_))⟩
   · have hpt : 0 ≤ ((c.procs.getD p ay).puts.getD m bj).chan∧((c.procs.getD p ay).puts.getD m bj).chan < c.chans.length := ⟨(hc.pt p hp m (show m < (c.procs.getD p ay).puts.length by omega)).1,(hc.pt p hp m (show m < (c.procs.getD p ay).puts.length by omega)).2.1⟩
     refine tt ⟨ix,tt ⟨ix,tt ⟨fun hs0 => ?_,fun hs0 => ?_⟩⟩⟩
     · refine tt ⟨ix,tt ⟨(vT hs0),tt ⟨⟨⟨rfl,oK⟩,oK⟩,⟨(bS (by omega) (by first | exact (zQ hs0).symm | exact (oS hs0).symm | exact (oS hs1).symm)),tt ⟨w6,tt ⟨(m + 1),rfl,(?_ : (m + 1) ≤ (c.procs.getD p ay).puts.length),(?_ : (c.procs.getD p ay).puts.length - (m + 1) < (c.procs.getD p ay).puts.length - m)⟩⟩⟩⟩⟩⟩
       · omega
       · omega
     · refine tt ⟨ix,tt ⟨(vF hs0),tt ⟨ix,tt ⟨ix,tt ⟨⟨⟨rfl,oK⟩,oK⟩,⟨(bS (by omega) (by first | exact (zQ hs0).symm | exact (oS hs0).symm | exact (oS hs1).symm)),tt ⟨w6,tt ⟨(m + 1),rfl,(?_ : (m + 1) ≤ (c.procs.getD p ay).puts.length),(?_ : (c.procs.getD p ay).puts.length - (m + 1) < (c.procs.getD p ay).puts.length - m)⟩⟩⟩⟩⟩⟩⟩⟩
       · omega
       · omega
   · refine tt ⟨(congrArg _ (?_ : (ao (cH c s p) i) = (cT c s p))),(congrArg _ (?_ : (ao (cI c s p) m) = (dK c s p))),oK⟩
     · rw [show i = (c.procs.getD p ay).takes.length by omega]; rfl
     · rw [show m = (c.procs.getD p ay).puts.length by omega]; rfl
abbrev Gv (c : Ci) (s : Ns) (p : Nat) : Ct := ⟨15,[(.agg (lz c)),(.agg (ly s)),(i6 (p : Int))],true,(.agg [(dB ((ac c s p).fires)),(LI (((ac c s p).s).regs)),(dL 1 af [] (((ac c s p).s).mems)),(LB ((ac c s p).pops)),(dL 2 bx aK ((ac c s p).puts))])⟩
theorem kg (c : Ci) (s : Ns) (p : Nat) (hc : bo c) (hs : bN c s) (hp : p < c.procs.length) : CC (Gv c s p) := by
 have hnl := hc.nl
 have hcl := hc.cl
 have hpk : iA (c.procs.getD p ay) := hc.pr p hp
 have hl1 := hs.pl
 have hl2 := hs.cl
 have ht1 : (c.procs.getD p ay).takes.length ≤ 100 := hpk.tl
 have ht2 : (c.procs.getD p ay).puts.length ≤ 100 := hpk.pl
 refine an.vc (V := TT 6 (IX (p : Int) c.procs.length∧TT 4 (IX (p : Int) s.procs.length∧TT 4 (CC (OH c s p)∧CC (OE (c.procs.getD p ay) (s.procs.getD p aU) (cT c s p) (dK c s p))∧TT 2 (((aY (c.procs.getD p ay) (s.procs.getD p aU) (cT c s p) (dK c s p)).fires) = ((ac c s p).fires)∧(((aY (c.procs.getD p ay) (s.procs.getD p aU) (cT c s p) (dK c s p)).s).regs).map (ah .i64) = (((ac c s p).s).regs).map (ah .i64)∧(((aY (c.procs.getD p ay) (s.procs.getD p aU) (cT c s p) (dK c s p)).s).mems).map af = (((ac c s p).s).mems).map af∧((aY (c.procs.getD p ay) (s.procs.getD p aU) (cT c s p) (dK c s p)).pops).map aR = ((ac c s p).pops).map aR∧((aY (c.procs.getD p ay) (s.procs.getD p aU) (cT c s p) (dK c s p)).puts).map bx = ((ac c s p).puts).map bx∧True))))) (.w 1 [(13,(OH c s p).O),(14,(OE (c.procs.getD p ay) (s.procs.getD p aU) (cT c s p) (dK c s p)).O)] <| .e) Tryz.func15 rfl rfl rfl (by kernel_rfl) ?_
 refine tt ⟨ix,tt ⟨ix,tt ⟨(II c s p hc hs hp),⟨(Gt (c.procs.getD p ay) (s.procs.getD p aU) (cT c s p) (dK c s p) hpk (hs.pv p hp) (oM hc hs hp) (by rw [dK,aN])),tt ⟨?_,(congrArg _ (?_ : (((aY (c.procs.getD p ay) (s.procs.getD p aU) (cT c s p) (dK c s p)).s).regs) = (((ac c s p).s).regs))),(congrArg _ (?_ : (((aY (c.procs.getD p ay) (s.procs.getD p aU) (cT c s p) (dK c s p)).s).mems) = (((ac c s p).s).mems))),(congrArg _ (?_ : ((aY (c.procs.getD p ay) (s.procs.getD p aU) (cT c s p) (dK c s p)).pops) = ((ac c s p).pops))),(congrArg _ (?_ : ((aY (c.procs.getD p ay) (s.procs.getD p aU) (cT c s p) (dK c s p)).puts) = ((ac c s p).puts))),oK⟩⟩⟩⟩⟩
 all_goals (rfl)
abbrev BF (c : Ci) (s : Ns) (p : Int) : Ct := ⟨34,[(.agg (lz c)),(.agg (ly s)),(i6 p)],false,(dB (bp c s p))⟩
theorem lA (c : Ci) (s : Ns) (p : Int) (hc : bo c) (hs : bN c s) : CC (BF c s p) := by
 have hnl := hc.nl
 have hcl := hc.cl
 refine an.vc (V := TT 3 (CS (p ≥ 0) (CS (p < (c.procs.length : Int)) (TT 2 ((True∧(decide (p ≥ 0)) = true)∧TT 6 ((True∧(decide (p < (c.procs.length : Int))) = true)∧TT 2 ((True∧p = (p.toNat : Int))∧CC (Gv c s p.toNat)∧TT 4 (((ac c s p.toNat).fires) = (bp c s p)∧True))))) (TT 2 ((True∧(decide (p ≥ 0)) = true)∧TT 6 ((True∧(decide (p < (c.procs.length : Int))) = false)∧TT 8 (false = (bp c s p)∧True))))) (TT 2 ((True∧(decide (p ≥ 0)) = false)∧TT 15 (false = (bp c s p)∧True))))) (.s 1 (p ≥ 0) (.s 1 (p < (c.procs.length : Int)) (.w 1 [(2,.val (dB true)),(9,.val (dB true)),(12,.val (i6 (p.toNat : Int))),(13,(Gv c s p.toNat).O)] <| .e) (.w 1 [(2,.val (dB true)),(9,.val (dB false))] <| .e)) (.w 1 [(2,.val (dB false))] <| .e)) Tryz.func34 rfl rfl rfl (by kernel_rfl) ?_
 refine tt ⟨fun hs0 => ?_,fun hs0 => ?_⟩
 · refine ⟨fun hs1 => ?_,fun hs1 => ?_⟩
   · refine tt ⟨(vT hs0),tt ⟨(vT hs1),tt ⟨⟨oK,(by omega)⟩,⟨(kg c s p.toNat hc hs (by omega)),tt ⟨?_,oK⟩⟩⟩⟩⟩
     first | exact (l8 (by omega)).symm | exact (l9 (by omega)).symm | exact (mW (by omega) (by omega)).symm
   · refine tt ⟨(vT hs0),tt ⟨(vF hs1),tt ⟨?_,oK⟩⟩⟩
     first | exact (l8 (by omega)).symm | exact (l9 (by omega)).symm | exact (mW (by omega) (by omega)).symm
 · refine tt ⟨(vF hs0),tt ⟨?_,oK⟩⟩
   first | exact (l8 (by omega)).symm | exact (l9 (by omega)).symm | exact (mW (by omega) (by omega)).symm
abbrev M6 (c : Ci) (s : Ns) : Ct := ⟨62,[(.agg (lz c)),(.agg (ly s))],false,(i6 (a8 c s))⟩
abbrev qa (c : Ci) (s : Ns) : Lp (Nat) := fX [2,3,5] 2 (fun (p : Nat) => ⟨[(2,(.ptr 0 0 0 0)),(3,(.ptr 1 0 0 0)),(5,(i6 (p : Int)))],[(.var 31 (lz c)),(.var 36 (ly s))]⟩) (fun (p : Nat) => p ≤ c.procs.length∧ik c s (c.procs.length - p) p = a8 c s) (fun (p : Nat) => c.procs.length - p)
theorem yC (c : Ci) (s : Ns) (hc : bo c) (hs : bN c s) : CC (M6 c s) := by
 have hnl := hc.nl
 have hcl := hc.cl
 refine an.vc (V := TT 4 (GO (qa c s) 0 (∀ p,(qa c s).inv p → TT 5 (CD ((p : Int) < (c.procs.length : Int)) (TT 3 (CC (BF c s (p : Int))∧CB (bp c s (p : Int)) (TT 3 ((p : Int) = (a8 c s)∧True)) (TT 1 (W6 ((p + 1 : Nat) : Int)∧TT 1 (AG (qa c s) p (p + 1)))))) (TT 2 ((-1) = (a8 c s)∧True)))))) (.l (qa c s) 0 (fun p => .b 10 (.w 4 [(3,(BF c s (p : Int)).O)] <| .b 16 (.e) (.w 3 [(1,.val (i6 ((p + 1 : Nat) : Int)))] <| .e)) (.e))) Tryz.func62 rfl rfl rfl (by kernel_rfl) ?_
 refine tt ⟨rfl,⟨by omega,rfl⟩,?_⟩
 intro p hinv
 obtain ⟨hp,hfk⟩ := hinv
 refine tt (cd (fun hc10 => ?_) (fun hc10 => ?_))
 · refine tt ⟨(lA c s (p : Int) hc hs),⟨fun hc16 => ?_,fun hc16 => ?_⟩⟩
   · refine tt ⟨?_,oK⟩
     rw [← hfk]; first | exact (rg (by omega) (by rw [← dZ (by omega)]; exact hc16)).symm | exact (rh (by omega)).symm
   · refine tt ⟨w6,tt ⟨(p + 1),rfl,?_,(?_ : c.procs.length - (p + 1) < c.procs.length - p)⟩⟩
     · exact ⟨by omega,by rw [← hfk]; exact (yq (by omega) (by rw [← dZ (by omega),hc16]; simp)).symm⟩
     · omega
 · refine tt ⟨?_,oK⟩
   rw [← hfk]; first | exact (rg (by omega) (by rw [← dZ (by omega)]; exact hc16)).symm | exact (rh (by omega)).symm
abbrev jt (a b : Ns) : Ct := ⟨22,[(.agg [(dL 2 be aU a.procs),(dL 1 af [] a.chans)]),(.agg [(dL 2 be aU b.procs),(dL 1 af [] b.chans)])],false,(dB (bB a b))⟩
abbrev qb (a : Ns) (b : Ns) : Lp (Nat) := fX [2,3,5] 2 (fun (i : Nat) => ⟨[(2,(.ptr 0 0 0 0)),(3,(.ptr 1 0 0 0)),(5,(i6 (i : Int)))],[(.var 36 [(dL 2 be aU a.procs),(dL 1 af [] a.chans)]),(.var 36 [(dL 2 be aU b.procs),(dL 1 af [] b.chans)])]⟩) (fun (i : Nat) => i ≤ a.procs.length∧∀ z,z < i → cf (a.procs.getD z aU) (b.procs.getD z aU) = true) (fun (i : Nat) => a.procs.length - i)
abbrev qc (a : Ns) (b : Ns) : Lp (Nat) := fX [2,3,6] 2 (fun (n : Nat) => ⟨[(2,(.ptr 0 0 0 0)),(3,(.ptr 1 0 0 0)),(6,(i6 (n : Int)))],[(.var 36 [(dL 2 be aU a.procs),(dL 1 af [] a.chans)]),(.var 36 [(dL 2 be aU b.procs),(dL 1 af [] b.chans)])]⟩) (fun (n : Nat) => n ≤ a.chans.length∧∀ z,z < n → a.chans.getD z [] = b.chans.getD z []) (fun (n : Nat) => a.chans.length - n)
theorem bH (a b : Ns) (hz : EX a) : CC (jt a b) := by
 obtain ⟨hap,hac,hcb,hpa,hpb,hpc⟩ := hz
 refine an.vc (V := TT 3 (CS ((a.procs.length : Int) = (b.procs.length : Int)) (TT 7 ((True∧(!decide ((a.procs.length : Int) = (b.procs.length : Int))) = false)∧TT 8 (CN ((a.chans.length : Int) = (b.chans.length : Int)) (TT 2 (false = (bB a b)∧True)) (TT 1 (GO (qb a b) 0 (∀ i,(qb a b).inv i → TT 5 (CD ((i : Int) < (a.procs.length : Int)) (TT 3 (IX (i : Int) a.procs.length∧TT 4 (IX (i : Int) b.procs.length∧TT 1 (CC (ud (a.procs.getD i aU) (b.procs.getD i aU))∧TT 1 (CB (!(cf (a.procs.getD i aU) (b.procs.getD i aU))) (TT 2 (false = (bB a b)∧True)) (TT 1 (W6 ((i + 1 : Nat) : Int)∧TT 1 (AG (qb a b) i (i + 1))))))))) (TT 1 (GO (qc a b) 0 (∀ n,(qc a b).inv n → TT 5 (CD ((n : Int) < (a.chans.length : Int)) (TT 3 (IX (n : Int) a.chans.length∧TT 4 (IX (n : Int) b.chans.length∧TT 1 (CC (qt (a.chans.getD n []) (b.chans.getD n []))∧TT 1 (CN ((a.chans.getD n []) = (b.chans.getD n [])) (TT 2 (false = (bB a b)∧True)) (TT 1 (W6 ((n + 1 : Nat) : Int)∧TT 1 (AG (qc a b) n (n + 1))))))))) (TT 2 (true = (bB a b)∧True))))))))))))) (TT 7 ((True∧(!decide ((a.procs.length : Int) = (b.procs.length : Int))) = true)∧TT 10 (false = (bB a b)∧True))))) (.s 1 ((a.procs.length : Int) = (b.procs.length : Int)) (.w 1 [(7,.val (dB false))] <| .b 22 (.e) (.l (qb a b) 0 (fun i => .b 27 (.w 6 [(10,(ud (a.procs.getD i aU) (b.procs.getD i aU)).O)] <| .b 41 (.e) (.w 5 [(1,.val (i6 ((i + 1 : Nat) : Int)))] <| .e)) (.l (qc a b) 0 (fun n => .b 46 (.w 11 [(10,(qt (a.chans.getD n []) (b.chans.getD n [])).O)] <| .b 60 (.e) (.w 10 [(1,.val (i6 ((n + 1 : Nat) : Int)))] <| .e)) (.e)))))) (.w 1 [(7,.val (dB true))] <| .e)) Tryz.func22 rfl rfl rfl (by kernel_rfl) ?_
 refine tt ⟨fun hs0 => ?_,fun hs0 => ?_⟩
 · refine tt ⟨(nF hs0),tt (cn (fun hc22 => ?_) (fun hc22 => ?_))⟩
   · refine tt ⟨?_,oK⟩
     first | exact (kJ (by omega)).symm | exact (kK (by omega)).symm | exact (kL (i := i) (by omega) (by simpa using hc41)).symm | exact (kM (n := n) (by simpa using hc60)).symm | exact (kN (by omega) (by omega) (fun z hz => h3 z (by omega)) (fun z hz => h4 z (by omega))).symm
   · refine tt ⟨rfl,⟨by omega,fun z hz => by omega⟩,?_⟩
     intro i hinv
     obtain ⟨hi,h3⟩ := hinv
     refine tt (cd (fun hc27 => ?_) (fun hc27 => ?_))
     · refine tt ⟨ix,tt ⟨ix,tt ⟨(dG (a.procs.getD i aU) (b.procs.getD i aU) (by have := hpa i; omega) (by have := hpb i; omega) (fun j => by have := hpc i j; omega)),tt ⟨fun hc41 => ?_,fun hc41 => ?_⟩⟩⟩⟩
       · refine tt ⟨?_,oK⟩
         first | exact (kJ (by omega)).symm | exact (kK (by omega)).symm | exact (kL (i := i) (by omega) (by simpa using hc41)).symm | exact (kM (n := n) (by simpa using hc60)).symm | exact (kN (by omega) (by omega) (fun z hz => h3 z (by omega)) (fun z hz => h4 z (by omega))).symm
       · refine tt ⟨w6,tt ⟨(i + 1),rfl,?_,(?_ : a.procs.length - (i + 1) < a.procs.length - i)⟩⟩
         · exact ⟨by omega,cy h3 (by simpa using hc41)⟩
         · omega
     · refine tt ⟨rfl,⟨by omega,fun z hz => by omega⟩,?_⟩
       intro n hinv
       obtain ⟨hn,h4⟩ := hinv
       refine tt (cd (fun hc46 => ?_) (fun hc46 => ?_))
       · refine tt ⟨ix,tt ⟨ix,tt ⟨(ex (a.chans.getD n []) (b.chans.getD n []) (by have := hcb n; omega)),tt (cn (fun hc60 => ?_) (fun hc60 => ?_))⟩⟩⟩
         · refine tt ⟨?_,oK⟩
           first | exact (kJ (by omega)).symm | exact (kK (by omega)).symm | exact (kL (i := i) (by omega) (by simpa using hc41)).symm | exact (kM (n := n) (by simpa using hc60)).symm | exact (kN (by omega) (by omega) (fun z hz => h3 z (by omega)) (fun z hz => h4 z (by omega))).symm
         · refine tt ⟨w6,tt ⟨(n + 1),rfl,?_,(?_ : a.chans.length - (n + 1) < a.chans.length - n)⟩⟩
           · exact ⟨by omega,cy h4 (by simpa using hc60)⟩
           · omega
       · refine tt ⟨?_,oK⟩
         first | exact (kJ (by omega)).symm | exact (kK (by omega)).symm | exact (kL (i := i) (by omega) (by simpa using hc41)).symm | exact (kM (n := n) (by simpa using hc60)).symm | exact (kN (by omega) (by omega) (fun z hz => h3 z (by omega)) (fun z hz => h4 z (by omega))).symm
 · refine tt ⟨(nT hs0),tt ⟨?_,oK⟩⟩
   first | exact (kJ (by omega)).symm | exact (kK (by omega)).symm | exact (kL (i := i) (by omega) (by simpa using hc41)).symm | exact (kM (n := n) (by simpa using hc60)).symm | exact (kN (by omega) (by omega) (fun z hz => h3 z (by omega)) (fun z hz => h4 z (by omega))).symm
abbrev IJ (a b : List Bool) : Ct := ⟨37,[(LB a),(LB b)],false,(dB (decide (a = b)))⟩
abbrev sK (a : List Bool) (b : List Bool) : Lp (Nat) := fX [0,1,5] 0 (fun (k : Nat) => ⟨[(0,(LB a)),(1,(LB b)),(5,(i6 (k : Int)))],[]⟩) (fun (k : Nat) => k ≤ a.length∧∀ z,z < k → a.getD z false = b.getD z false) (fun (k : Nat) => a.length - k)
theorem o7 (a b : List Bool) (ha : a.length ≤ 9223372036854775807) : CC (IJ a b) := by
 refine an.vc (V := TT 6 (CN ((a.length : Int) = (b.length : Int)) (TT 2 (false = (decide (a = b))∧True)) (TT 1 (GO (sK a b) 0 (∀ k,(sK a b).inv k → TT 4 (CD ((k : Int) < (a.length : Int)) (TT 2 (IX (k : Int) a.length∧TT 3 (IX (k : Int) b.length∧TT 2 (CB (!((a.getD k false) == (b.getD k false))) (TT 2 (false = (decide (a = b))∧True)) (TT 1 (W6 ((k + 1 : Nat) : Int)∧TT 1 (AG (sK a b) k (k + 1)))))))) (TT 2 (true = (decide (a = b))∧True)))))))) (.b 10 (.e) (.l (sK a b) 0 (fun k => .b 14 (.b 25 (.e) (.w 5 [(1,.val (i6 ((k + 1 : Nat) : Int)))] <| .e)) (.e)))) Tryz.func37 rfl rfl rfl (by kernel_rfl) ?_
 refine tt (cn (fun hc10 => ?_) (fun hc10 => ?_))
 · refine tt ⟨?_,oK⟩
   first | exact (decide_eq_false (fun e => by subst e; omega)).symm | exact (decide_eq_false (fun e => by rw [e] at hc25; simp at hc25)).symm | exact (decide_eq_true (cF (by omega) (by omega) hall)).symm
 · refine tt ⟨rfl,⟨by omega,fun z hz => by omega⟩,?_⟩
   intro k hinv
   obtain ⟨hk,hall⟩ := hinv
   refine tt (cd (fun hc14 => ?_) (fun hc14 => ?_))
   · refine tt ⟨ix,tt ⟨ix,tt ⟨fun hc25 => ?_,fun hc25 => ?_⟩⟩⟩
     · refine tt ⟨?_,oK⟩
       first | exact (decide_eq_false (fun e => by subst e; omega)).symm | exact (decide_eq_false (fun e => by rw [e] at hc25; simp at hc25)).symm | exact (decide_eq_true (cF (by omega) (by omega) hall)).symm
     · refine tt ⟨w6,tt ⟨(k + 1),rfl,?_,(?_ : a.length - (k + 1) < a.length - k)⟩⟩
       · exact ⟨by omega,cy hall (by simpa using hc25)⟩
       · omega
   · refine tt ⟨?_,oK⟩
     first | exact (decide_eq_false (fun e => by subst e; omega)).symm | exact (decide_eq_false (fun e => by rw [e] at hc25; simp at hc25)).symm | exact (decide_eq_true (cF (by omega) (by omega) hall)).symm
end Go.Proofs.YtifoecfajmnjjaaGreat
