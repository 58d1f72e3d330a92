/-
  Package network: valid states, starts, what a process does.
-/
import Derived.Test.YtifoecfajmnjjaaGreatQNeE
namespace Go.Proofs.YtifoecfajmnjjaaGreat
open Go.RowKit
set_option linter.unusedVariables false
set_option linter.unusedSimpArgs false
abbrev qG (c : Ci) : List D := [(dL 6 ga ay c.procs),(dL 5 jy ba c.chans)]
abbrev yv (s : Ns) : List D := [(dL 2 be aU s.procs),(dL 1 af [] s.chans)]
set_option maxRecDepth 100000
abbrev ry (c : Ci) (s : Ns) : Ct := ⟨14,[(.agg (qG c)),(.agg (yv s))],false,(dB (aP c s))⟩
abbrev pP (c : Ci) (s : Ns) : Lp (Nat) := fX [2,3,27,28,29] 2 (fun (i : Nat) => ⟨[(2,(.ptr 0 0 0 0)),(3,(.ptr 1 0 0 0)),(27,(dL 6 ga ay c.procs)),(28,(i6 (c.procs.length : Int))),(29,(i6 (i : Int)))],[(.var 31 (qG c)),(.var 36 (yv s))]⟩) (fun (i : Nat) => i ≤ c.procs.length∧∀ z,z < i → bO (aB c z) (xw s z) = true) (fun (i : Nat) => c.procs.length - i)
abbrev j9 (c : Ci) (s : Ns) : Lp (Nat) := fX [3,44,45,46] 2 (fun (n : Nat) => ⟨[(3,(.ptr 1 0 0 0)),(44,(dL 5 jy ba c.chans)),(45,(i6 (c.chans.length : Int))),(46,(i6 (n : Int)))],[(.var 31 (qG c)),(.var 36 (yv s))]⟩) (fun (n : Nat) => n ≤ c.chans.length∧∀ z,z < n → jz c s z = true) (fun (n : Nat) => c.chans.length - n)
theorem dm (c : Ci) (s : Ns) (hc : bo c) (hsm : fY s 9223372036854775807) : CC (ry c s) := by
 have hnl := hc.nl
 have hcl := hc.cl
 refine an.vc (V := TT 3 (CS ((s.procs.length : Int) = (c.procs.length : Int)) (TT 7 ((True∧(!decide ((s.procs.length : Int) = (c.procs.length : Int))) = false)∧TT 8 (CN ((s.chans.length : Int) = (c.chans.length : Int)) (TT 2 (false = (aP c s)∧True)) (TT 4 (GO (pP c s) 0 (∀ i,(pP c s).inv i → TT 1 (CD ((i : Int) < (c.procs.length : Int)) (TT 1 (IX (i : Int) c.procs.length∧TT 8 (IX (i : Int) s.procs.length∧TT 1 (CC (Oc (c.procs.getD i ay) (s.procs.getD i aU))∧TT 1 (CB (!(bO (c.procs.getD i ay) (s.procs.getD i aU))) (TT 2 (false = (aP c s)∧True)) (W6 ((i + 1 : Nat) : Int)∧TT 1 (AG (pP c s) i (i + 1)))))))) (TT 4 (GO (j9 c s) 0 (∀ n,(j9 c s).inv n → TT 1 (CD ((n : Int) < (c.chans.length : Int)) (TT 1 (IX (n : Int) c.chans.length∧TT 4 (CS (((c.chans.getD n ba).frm) ≥ 0) (TT 3 ((True∧(decide (((c.chans.getD n ba).frm) ≥ 0)) = true)∧TT 5 (CS ((cg (s.chans.getD n []) ((c.chans.getD n ba).w)) = true) (CS (((c.chans.getD n ba).dst) ≥ 0) (TT 3 (IX (n : Int) s.chans.length∧TT 3 (CC (Ge (s.chans.getD n []) ((c.chans.getD n ba).w))∧TT 1 ((True∧(!(cg (s.chans.getD n []) ((c.chans.getD n ba).w))) = false)∧TT 1 ((True∧(decide (((c.chans.getD n ba).dst) ≥ 0)) = true)∧TT 3 (IX (n : Int) s.chans.length∧TT 7 (CD ((((s.chans.getD n []).length : Nat) : Int) > ((c.chans.getD n ba).cap)) (TT 2 (false = (aP c s)∧True)) (W6 ((n + 1 : Nat) : Int)∧TT 1 (AG (j9 c s) n (n + 1)))))))))) (TT 3 (IX (n : Int) s.chans.length∧TT 3 (CC (Ge (s.chans.getD n []) ((c.chans.getD n ba).w))∧TT 1 ((True∧(!(cg (s.chans.getD n []) ((c.chans.getD n ba).w))) = false)∧TT 1 ((True∧(decide (((c.chans.getD n ba).dst) ≥ 0)) = false)∧TT 2 (W6 ((n + 1 : Nat) : Int)∧TT 1 (AG (j9 c s) n (n + 1))))))))) (TT 3 (IX (n : Int) s.chans.length∧TT 3 (CC (Ge (s.chans.getD n []) ((c.chans.getD n ba).w))∧TT 1 ((True∧(!(cg (s.chans.getD n []) ((c.chans.getD n ba).w))) = true)∧TT 3 (false = (aP c s)∧True)))))))) (TT 3 ((True∧(decide (((c.chans.getD n ba).frm) ≥ 0)) = false)∧TT 5 (CS ((cg (s.chans.getD n []) ((c.chans.getD n ba).w)) = true) (TT 3 (IX (n : Int) s.chans.length∧TT 3 (CC (Ge (s.chans.getD n []) ((c.chans.getD n ba).w))∧TT 1 ((True∧(!(cg (s.chans.getD n []) ((c.chans.getD n ba).w))) = false)∧TT 4 (W6 ((n + 1 : Nat) : Int)∧TT 1 (AG (j9 c s) n (n + 1))))))) (TT 3 (IX (n : Int) s.chans.length∧TT 3 (CC (Ge (s.chans.getD n []) ((c.chans.getD n ba).w))∧TT 1 ((True∧(!(cg (s.chans.getD n []) ((c.chans.getD n ba).w))) = true)∧TT 3 (false = (aP c s)∧True))))))))))) (TT 2 (true = (aP c s)∧True))))))))))))) (TT 7 ((True∧(!decide ((s.procs.length : Int) = (c.procs.length : Int))) = true)∧TT 10 (false = (aP c s)∧True))))) (.s 1 ((s.procs.length : Int) = (c.procs.length : Int)) (.w 1 [(7,.val (dB false))] <| .b 25 (.e) (.l (pP c s) 0 (fun i => .b 30 (.w 6 [(6,(Oc (c.procs.getD i ay) (s.procs.getD i aU)).O)] <| .b 41 (.e) (.w 8 [(0,.val (i6 ((i + 1 : Nat) : Int)))] <| .e)) (.l (j9 c s) 0 (fun n => .b 47 (.s 12 (((c.chans.getD n ba).frm) ≥ 0) (.w 12 [(3,.val (dB true))] <| .s 13 ((cg (s.chans.getD n []) ((c.chans.getD n ba).w)) = true) (.s 13 (((c.chans.getD n ba).dst) ≥ 0) (.w 13 [(7,(Ge (s.chans.getD n []) ((c.chans.getD n ba).w)).O),(9,.val (dB false)),(11,.val (dB true))] <| .b 81 (.e) (.w 15 [(0,.val (i6 ((n + 1 : Nat) : Int)))] <| .e)) (.w 13 [(7,(Ge (s.chans.getD n []) ((c.chans.getD n ba).w)).O),(9,.val (dB false)),(11,.val (dB false))] <| .w 15 [(0,.val (i6 ((n + 1 : Nat) : Int)))] <| .e)) (.w 13 [(7,(Ge (s.chans.getD n []) ((c.chans.getD n ba).w)).O),(9,.val (dB true))] <| .e)) (.w 12 [(3,.val (dB false))] <| .s 13 ((cg (s.chans.getD n []) ((c.chans.getD n ba).w)) = true) (.w 13 [(7,(Ge (s.chans.getD n []) ((c.chans.getD n ba).w)).O),(9,.val (dB false))] <| .w 15 [(0,.val (i6 ((n + 1 : Nat) : Int)))] <| .e) (.w 13 [(7,(Ge (s.chans.getD n []) ((c.chans.getD n ba).w)).O),(9,.val (dB true))] <| .e))) (.e)))))) (.w 1 [(7,.val (dB true))] <| .e)) Tryz.func14 rfl rfl rfl (by kernel_rfl) ?_
 refine tt ⟨fun hs0 => ?_,fun hs0 => ?_⟩
 · refine tt ⟨(nF hs0),tt (cn (fun hc25 => ?_) (fun hc25 => ?_))⟩
   · refine tt ⟨?_,oK⟩
     first | exact (iM (by omega)).symm | exact (iO (by omega)).symm | exact (iP (i := i) (by omega) (by simpa using hc41)).symm | exact (df (n := n) (by omega) (eB (by first | exact hs2 | exact hs4))).symm | exact (df (n := n) (by omega) (eC (by show 0 ≤ (c.chans.getD n ba).frm; omega) (by show 0 ≤ (c.chans.getD n ba).dst; omega) (by show ¬((s.chans.getD n []).length : Int) ≤ (c.chans.getD n ba).cap; omega))).symm | exact (iQ (by omega) (by omega) (fun z hz => h3 z (by omega)) (fun z hz => h4 z (by omega))).symm
   · refine tt ⟨rfl,⟨by omega,fun z hz => by omega⟩,?_⟩
     intro i hinv
     obtain ⟨hi,h3⟩ := hinv
     refine tt (cd (fun hc30 => ?_) (fun hc30 => ?_))
     · refine tt ⟨ix,?_⟩
       have hpk := hc.pr i (by omega)
       refine tt ⟨ix,tt ⟨(F7 (c.procs.getD i ay) (s.procs.getD i aU) hpk),tt ⟨fun hc41 => ?_,fun hc41 => ?_⟩⟩⟩
       · refine tt ⟨?_,oK⟩
         first | exact (iM (by omega)).symm | exact (iO (by omega)).symm | exact (iP (i := i) (by omega) (by simpa using hc41)).symm | exact (df (n := n) (by omega) (eB (by first | exact hs2 | exact hs4))).symm | exact (df (n := n) (by omega) (eC (by show 0 ≤ (c.chans.getD n ba).frm; omega) (by show 0 ≤ (c.chans.getD n ba).dst; omega) (by show ¬((s.chans.getD n []).length : Int) ≤ (c.chans.getD n ba).cap; omega))).symm | exact (iQ (by omega) (by omega) (fun z hz => h3 z (by omega)) (fun z hz => h4 z (by omega))).symm
       · refine ⟨w6,tt ⟨(i + 1),rfl,?_,(?_ : c.procs.length - (i + 1) < c.procs.length - i)⟩⟩
         · exact ⟨by omega,cy h3 (by simpa using hc41)⟩
         · omega
     · refine tt ⟨rfl,⟨by omega,fun z hz => by omega⟩,?_⟩
       intro n hinv
       obtain ⟨hn,h4⟩ := hinv
       refine tt (cd (fun hc47 => ?_) (fun hc47 => ?_))
       · refine tt ⟨ix,tt ?_⟩
         have hw : 1 ≤ (c.chans.getD n ba).w∧(c.chans.getD n ba).w ≤ 8 := bc.1 (hc.cw n (by omega))
         have hlw : (s.chans.getD n []).length ≤ 9223372036854775807 := hsm n
         refine ⟨fun hs1 => ?_,fun hs1 => ?_⟩
         · refine tt ⟨(vT hs1),tt ⟨fun hs2 => ?_,fun hs2 => ?_⟩⟩
           · refine ⟨fun hs3 => ?_,fun hs3 => ?_⟩
             · refine tt ⟨ix,tt ⟨(j8 (s.chans.getD n []) ((c.chans.getD n ba).w) (by omega) (by omega) hlw),tt ⟨(mF hs2),tt ⟨(vT hs3),tt ⟨ix,tt (cd (fun hc81 => ?_) (fun hc81 => ?_))⟩⟩⟩⟩⟩
               · refine tt ⟨?_,oK⟩
                 first | exact (iM (by omega)).symm | exact (iO (by omega)).symm | exact (iP (i := i) (by omega) (by simpa using hc41)).symm | exact (df (n := n) (by omega) (eB (by first | exact hs2 | exact hs4))).symm | exact (df (n := n) (by omega) (eC (by show 0 ≤ (c.chans.getD n ba).frm; omega) (by show 0 ≤ (c.chans.getD n ba).dst; omega) (by show ¬((s.chans.getD n []).length : Int) ≤ (c.chans.getD n ba).cap; omega))).symm | exact (iQ (by omega) (by omega) (fun z hz => h3 z (by omega)) (fun z hz => h4 z (by omega))).symm
               · refine ⟨w6,tt ⟨(n + 1),rfl,?_,(?_ : c.chans.length - (n + 1) < c.chans.length - n)⟩⟩
                 · refine ⟨by omega,cy h4 ?_⟩
                   first | exact tS (by first | exact hs2 | exact hs4) (by show ¬0 ≤ (c.chans.getD n ba).frm; omega) | exact tT (by first | exact hs2 | exact hs4) (by show ¬0 ≤ (c.chans.getD n ba).dst; omega) | exact tU (by first | exact hs2 | exact hs4) (by show ((s.chans.getD n []).length : Int) ≤ (c.chans.getD n ba).cap; omega)
                 · omega
             · refine tt ⟨ix,tt ⟨(j8 (s.chans.getD n []) ((c.chans.getD n ba).w) (by omega) (by omega) hlw),tt ⟨(mF hs2),tt ⟨(vF hs3),tt ⟨w6,tt ⟨(n + 1),rfl,?_,(?_ : c.chans.length - (n + 1) < c.chans.length - n)⟩⟩⟩⟩⟩⟩
               · refine ⟨by omega,cy h4 ?_⟩
                 first | exact tS (by first | exact hs2 | exact hs4) (by show ¬0 ≤ (c.chans.getD n ba).frm; omega) | exact tT (by first | exact hs2 | exact hs4) (by show ¬0 ≤ (c.chans.getD n ba).dst; omega) | exact tU (by first | exact hs2 | exact hs4) (by show ((s.chans.getD n []).length : Int) ≤ (c.chans.getD n ba).cap; omega)
               · omega
           · refine tt ⟨ix,tt ⟨(j8 (s.chans.getD n []) ((c.chans.getD n ba).w) (by omega) (by omega) hlw),tt ⟨(mT hs2),tt ⟨?_,oK⟩⟩⟩⟩
             first | exact (iM (by omega)).symm | exact (iO (by omega)).symm | exact (iP (i := i) (by omega) (by simpa using hc41)).symm | exact (df (n := n) (by omega) (eB (by first | exact hs2 | exact hs4))).symm | exact (df (n := n) (by omega) (eC (by show 0 ≤ (c.chans.getD n ba).frm; omega) (by show 0 ≤ (c.chans.getD n ba).dst; omega) (by show ¬((s.chans.getD n []).length : Int) ≤ (c.chans.getD n ba).cap; omega))).symm | exact (iQ (by omega) (by omega) (fun z hz => h3 z (by omega)) (fun z hz => h4 z (by omega))).symm
         · refine tt ⟨(vF hs1),tt ⟨fun hs4 => ?_,fun hs4 => ?_⟩⟩
           · refine tt ⟨ix,tt ⟨(j8 (s.chans.getD n []) ((c.chans.getD n ba).w) (by omega) (by omega) hlw),tt ⟨(mF hs4),tt ⟨w6,tt ⟨(n + 1),rfl,?_,(?_ : c.chans.length - (n + 1) < c.chans.length - n)⟩⟩⟩⟩⟩
             · refine ⟨by omega,cy h4 ?_⟩
               first | exact tS (by first | exact hs2 | exact hs4) (by show ¬0 ≤ (c.chans.getD n ba).frm; omega) | exact tT (by first | exact hs2 | exact hs4) (by show ¬0 ≤ (c.chans.getD n ba).dst; omega) | exact tU (by first | exact hs2 | exact hs4) (by show ((s.chans.getD n []).length : Int) ≤ (c.chans.getD n ba).cap; omega)
             · omega
           · refine tt ⟨ix,tt ⟨(j8 (s.chans.getD n []) ((c.chans.getD n ba).w) (by omega) (by omega) hlw),tt ⟨(mT hs4),tt ⟨?_,oK⟩⟩⟩⟩
             first | exact (iM (by omega)).symm | exact (iO (by omega)).symm | exact (iP (i := i) (by omega) (by simpa using hc41)).symm | exact (df (n := n) (by omega) (eB (by first | exact hs2 | exact hs4))).symm | exact (df (n := n) (by omega) (eC (by show 0 ≤ (c.chans.getD n ba).frm; omega) (by show 0 ≤ (c.chans.getD n ba).dst; omega) (by show ¬((s.chans.getD n []).length : Int) ≤ (c.chans.getD n ba).cap; omega))).symm | exact (iQ (by omega) (by omega) (fun z hz => h3 z (by omega)) (fun z hz => h4 z (by omega))).symm
       · refine tt ⟨?_,oK⟩
         first | exact (iM (by omega)).symm | exact (iO (by omega)).symm | exact (iP (i := i) (by omega) (by simpa using hc41)).symm | exact (df (n := n) (by omega) (eB (by first | exact hs2 | exact hs4))).symm | exact (df (n := n) (by omega) (eC (by show 0 ≤ (c.chans.getD n ba).frm; omega) (by show 0 ≤ (c.chans.getD n ba).dst; omega) (by show ¬((s.chans.getD n []).length : Int) ≤ (c.chans.getD n ba).cap; omega))).symm | exact (iQ (by omega) (by omega) (fun z hz => h3 z (by omega)) (fun z hz => h4 z (by omega))).symm
 · refine tt ⟨(nT hs0),tt ⟨?_,oK⟩⟩
   first | exact (iM (by omega)).symm | exact (iO (by omega)).symm | exact (iP (i := i) (by omega) (by simpa using hc41)).symm | exact (df (n := n) (by omega) (eB (by first | exact hs2 | exact hs4))).symm | exact (df (n := n) (by omega) (eC (by show 0 ≤ (c.chans.getD n ba).frm; omega) (by show 0 ≤ (c.chans.getD n ba).dst; omega) (by show ¬((s.chans.getD n []).length : Int) ≤ (c.chans.getD n ba).cap; omega))).symm | exact (iQ (by omega) (by omega) (fun z hz => h3 z (by omega)) (fun z hz => h4 z (by omega))).symm
abbrev Ln (c : Ci) : Ct := ⟨26,[(.agg (qG c))],true,(.agg [(dL 2 be aU ((az c).procs)),(dL 1 af [] ((az c).chans))])⟩
abbrev pQ (c : Ci) : Lp (Nat) := fX [2,3,12,13,14] 5 (fun (i : Nat) => ⟨[(2,(.ptr 1 0 0 0)),(3,(.ptr 3 0 0 0)),(12,(dL 6 ga ay c.procs)),(13,(i6 (c.procs.length : Int))),(14,(i6 (i : Int)))],[(.var 31 (qG c)),(.var 36 [.nils,.nils]),(.arr 43 1 af [] (List.replicate c.chans.length ([] : List Int))),(.var 36 [(.own 4),(.own 2)]),(.arr 45 2 be aU (ao (fun i => bg (aB c i)) i))]⟩) (fun (i : Nat) => i ≤ c.procs.length) (fun (i : Nat) => c.procs.length - i)
theorem tV (c : Ci) (hc : bo c) : CC (Ln c) := by
 have hnl := hc.nl
 have hcl := hc.cl
 refine an.vc (V := TT 5 ((((0 : Int) ≤ (c.chans.length : Int)∧(c.chans.length : Int) ≤ (c.chans.length : Int)∧(c.chans.length : Int) ≤ 137438953472)∧(List.replicate c.chans.length ([] : List Int)).length = c.chans.length∧∀ x ∈ (List.replicate c.chans.length ([] : List Int)),di [.nils] (af x))∧TT 7 (GO (pQ c) 0 (∀ i,(pQ c).inv i → TT 1 (CD ((i : Int) < (c.procs.length : Int)) (IX (i : Int) c.procs.length∧TT 6 (CC (Od (c.procs.getD i ay))∧aq [[(LI ((bg (c.procs.getD i ay)).regs)),(dL 1 af [] ((bg (c.procs.getD i ay)).mems))]] ([(⟨(bg (c.procs.getD i ay)).regs,(bg (c.procs.getD i ay)).mems⟩ : Ps)].map be)∧((ao (fun i => bg (aB c i)) i).length + ([(⟨(bg (c.procs.getD i ay)).regs,(bg (c.procs.getD i ay)).mems⟩ : Ps)].map be).length ≤ 137438953472∧(ao (fun i => bg (aB c i)) i).map be ++ [(⟨(bg (c.procs.getD i ay)).regs,(bg (c.procs.getD i ay)).mems⟩ : Ps)].map be = (ao (fun i => bg (aB c i)) (i + 1)).map be)∧TT 2 (W6 ((i + 1 : Nat) : Int)∧TT 1 (AG (pQ c) i (i + 1))))) (TT 3 ((ao (fun i => bg (aB c i)) i).map be = ((az c).procs).map be∧(List.replicate c.chans.length ([] : List Int)).map af = ((az c).chans).map af∧True))))))) (.w 1 [(3,.box 43 1 af [] (List.replicate c.chans.length ([] : List Int)))] <| .g 2 3 0 45 2 be aU <| .l (pQ c) 0 (fun i => .b 15 (.w 5 [(3,(Od (c.procs.getD i ay)).O),(4,.box 45 2 be aU [(⟨(bg (c.procs.getD i ay)).regs,(bg (c.procs.getD i ay)).mems⟩ : Ps)]),(5,.box 45 2 be aU (ao (fun i => bg (aB c i)) (i + 1)))] <| .w 6 [(0,.val (i6 ((i + 1 : Nat) : Int)))] <| .e) (.e))) Tryz.func26 rfl rfl rfl (by kernel_rfl) ?_
 refine tt ⟨⟨by omega,by simp,fun x hx => by rw [List.eq_of_mem_replicate hx]; exact ⟨rfl,oK⟩⟩,tt ⟨rfl,(by omega),?_⟩⟩
 intro i hinv
 have hi := hinv
 refine tt (cd (fun hc15 => ?_) (fun hc15 => ?_))
 · refine ⟨ix,?_⟩
   have hpk := hc.pr i (by omega)
   refine tt ⟨(F8 (c.procs.getD i ay) hpk),⟨⟨⟨rfl,rfl,oK⟩,oK⟩,⟨(i3 (f := fun i => bg (aB c i)) (by omega)),tt ⟨w6,tt ⟨(i + 1),rfl,(?_ : (i + 1) ≤ c.procs.length),(?_ : c.procs.length - (i + 1) < c.procs.length - i)⟩⟩⟩⟩⟩
   · omega
   · omega
 · refine tt ⟨(congrArg _ (?_ : (ao (fun i => bg (aB c i)) i) = ((az c).procs))),(congrArg _ (?_ : (List.replicate c.chans.length ([] : List Int)) = ((az c).chans))),oK⟩
   · rw [show i = c.procs.length by omega]; rfl
   · rfl
abbrev Ol (h : Ch) : Ct := ⟨83,[(.agg [(dS h.name),(i6 h.w),(i6 h.cap),(i6 h.frm),(i6 h.dst)])],false,(i6 h.frm)⟩
theorem Ic (h : Ch) : CC (Ol h) := by
 refine an.vc (V := TT 6 (h.frm = h.frm∧True)) (.e) Tryz.func83 rfl rfl rfl (by kernel_rfl) ?_
 exact tt ⟨rfl,oK⟩
abbrev Om (h : Ch) : Ct := ⟨86,[(.agg [(dS h.name),(i6 h.w),(i6 h.cap),(i6 h.frm),(i6 h.dst)])],false,(i6 h.dst)⟩
theorem Ie (h : Ch) : CC (Om h) := by
 refine an.vc (V := TT 6 (h.dst = h.dst∧True)) (.e) Tryz.func86 rfl rfl rfl (by kernel_rfl) ?_
 exact tt ⟨rfl,oK⟩
abbrev Ig (c : Ci) (n : Int) : Ct := ⟨82,[(.agg (qG c)),(i6 n),(.fn (.func 83) [] [])],false,(dB (eV (·.frm) c n))⟩
theorem Bl (c : Ci) (n : Int) (hc : bo c) : CC (Ig c n) := by
 have hnl := hc.nl
 have hcl := hc.cl
 refine an.vc (V := TT 2 (CS (n ≥ 0) (CS (n < (c.chans.length : Int)) (TT 2 ((True∧(decide (n ≥ 0)) = true)∧TT 6 ((True∧(decide (n < (c.chans.length : Int))) = true)∧TT 4 (IX n c.chans.length∧TT 1 (CC (Ol (c.chans.getD n.toNat ba))∧TT 4 ((((c.chans.getD n.toNat ba).frm) == (-1)) = (eV (·.frm) c n)∧True)))))) (TT 2 ((True∧(decide (n ≥ 0)) = true)∧TT 6 ((True∧(decide (n < (c.chans.length : Int))) = false)∧TT 11 (false = (eV (·.frm) c n)∧True))))) (TT 2 ((True∧(decide (n ≥ 0)) = false)∧TT 18 (false = (eV (·.frm) c n)∧True))))) (.s 1 (n ≥ 0) (.s 1 (n < (c.chans.length : Int)) (.w 1 [(2,.val (dB true)),(9,.val (dB true)),(16,(Ol (c.chans.getD n.toNat ba)).O)] <| .e) (.w 1 [(2,.val (dB true)),(9,.val (dB false))] <| .e)) (.w 1 [(2,.val (dB false))] <| .e)) Tryz.func82 rfl rfl rfl (by kernel_rfl) ?_
 refine tt ⟨fun hs0 => ?_,fun hs0 => ?_⟩
 · refine ⟨fun hs1 => ?_,fun hs1 => ?_⟩
   · refine tt ⟨(vT hs0),tt ⟨(vT hs1),tt ⟨ix,tt ⟨(Ic (c.chans.getD n.toNat ba)),tt ⟨?_,oK⟩⟩⟩⟩⟩
     first | exact (dq (by omega)).symm | exact (dt (by omega)).symm | exact (gE (by omega) (by omega)).symm | (rw [gE (by omega) (by omega)]; simp)
   · refine tt ⟨(vT hs0),tt ⟨(vF hs1),tt ⟨?_,oK⟩⟩⟩
     first | exact (dq (by omega)).symm | exact (dt (by omega)).symm | exact (gE (by omega) (by omega)).symm | (rw [gE (by omega) (by omega)]; simp)
 · refine tt ⟨(vF hs0),tt ⟨?_,oK⟩⟩
   first | exact (dq (by omega)).symm | exact (dt (by omega)).symm | exact (gE (by omega) (by omega)).symm | (rw [gE (by omega) (by omega)]; simp)
abbrev Lo (c : Ci) (n : Int) : Ct := ⟨82,[(.agg (qG c)),(i6 n),(.fn (.func 86) [] [])],false,(dB (eV (·.dst) c n))⟩
theorem Ih (c : Ci) (n : Int) (hc : bo c) : CC (Lo c n) := by
 have hnl := hc.nl
 have hcl := hc.cl
 refine an.vc (V := TT 2 (CS (n ≥ 0) (CS (n < (c.chans.length : Int)) (TT 2 ((True∧(decide (n ≥ 0)) = true)∧TT 6 ((True∧(decide (n < (c.chans.length : Int))) = true)∧TT 4 (IX n c.chans.length∧TT 1 (CC (Om (c.chans.getD n.toNat ba))∧TT 4 ((((c.chans.getD n.toNat ba).dst) == (-1)) = (eV (·.dst) c n)∧True)))))) (TT 2 ((True∧(decide (n ≥ 0)) = true)∧TT 6 ((True∧(decide (n < (c.chans.length : Int))) = false)∧TT 11 (false = (eV (·.dst) c n)∧True))))) (TT 2 ((True∧(decide (n ≥ 0)) = false)∧TT 18 (false = (eV (·.dst) c n)∧True))))) (.s 1 (n ≥ 0) (.s 1 (n < (c.chans.length : Int)) (.w 1 [(2,.val (dB true)),(9,.val (dB true)),(16,(Om (c.chans.getD n.toNat ba)).O)] <| .e) (.w 1 [(2,.val (dB true)),(9,.val (dB false))] <| .e)) (.w 1 [(2,.val (dB false))] <| .e)) Tryz.func82 rfl rfl rfl (by kernel_rfl) ?_
 refine tt ⟨fun hs0 => ?_,fun hs0 => ?_⟩
 · refine ⟨fun hs1 => ?_,fun hs1 => ?_⟩
   · refine tt ⟨(vT hs0),tt ⟨(vT hs1),tt ⟨ix,tt ⟨(Ie (c.chans.getD n.toNat ba)),tt ⟨?_,oK⟩⟩⟩⟩⟩
     first | exact (dq (by omega)).symm | exact (dt (by omega)).symm | exact (gE (by omega) (by omega)).symm | (rw [gE (by omega) (by omega)]; simp)
   · refine tt ⟨(vT hs0),tt ⟨(vF hs1),tt ⟨?_,oK⟩⟩⟩
     first | exact (dq (by omega)).symm | exact (dt (by omega)).symm | exact (gE (by omega) (by omega)).symm | (rw [gE (by omega) (by omega)]; simp)
 · refine tt ⟨(vF hs0),tt ⟨?_,oK⟩⟩
   first | exact (dq (by omega)).symm | exact (dt (by omega)).symm | exact (gE (by omega) (by omega)).symm | (rw [gE (by omega) (by omega)]; simp)
abbrev Lq (c : Ci) (s : Ns) (p : Nat) : Ct := ⟨52,[(.agg (qG c)),(.agg (yv s)),(i6 (p : Int))],true,(.agg [(dB ((ac c s p).fires)),(LI (((ac c s p).s).regs)),(dL 1 af [] (((ac c s p).s).mems)),(LB ((ac c s p).pops)),(dL 2 bx aK ((ac c s p).puts))])⟩
abbrev oT (c : Ci) (s : Ns) (p : Nat) : Lp (Nat) := fX [2,3,4,6,7,8,21,22,23] 4 (fun (i : Nat) => ⟨[(2,(i6 (p : Int))),(3,(.ptr 0 0 0 0)),(4,(.ptr 1 0 0 0)),(6,(.ptr 2 0 0 0)),(7,(.own 3)),(8,.nils),(21,(dL 9 kZ bM ((c.procs.getD p ay).takes))),(22,(i6 ((((c.procs.getD p ay).takes).length : Nat) : Int))),(23,(i6 (i : Int)))],[(.var 31 (qG c)),(.var 36 (yv s)),(.var 48 [(dB false),.nils,.nils,.nils,.nils]),(.arr 68 2 bx aK (ao (cH c s p) i))]⟩) (fun (i : Nat) => i ≤ (c.procs.getD p ay).takes.length) (fun (i : Nat) => (c.procs.getD p ay).takes.length - i)
abbrev oU (c : Ci) (s : Ns) (p : Nat) (i : Nat) : Lp (Nat) := fX [2,3,4,6,7,8,50,51,52] 5 (fun (m : Nat) => ⟨[(2,(i6 (p : Int))),(3,(.ptr 0 0 0 0)),(4,(.ptr 1 0 0 0)),(6,(.ptr 2 0 0 0)),(7,(.own 3)),(8,(.own 4)),(50,(dL 16 gV bj ((c.procs.getD p ay).puts))),(51,(i6 ((((c.procs.getD p ay).puts).length : Nat) : Int))),(52,(i6 (m : Int)))],[(.var 31 (qG c)),(.var 36 (yv s)),(.var 48 [(dB false),.nils,.nils,.nils,.nils]),(.arr 68 2 bx aK (ao (cH c s p) i)),(.arr 4 1 aR false (ao (cI c s p) m))]⟩) (fun (m : Nat) => m ≤ (c.procs.getD p ay).puts.length) (fun (m : Nat) => (c.procs.getD p ay).puts.length - m)
theorem wH (c : Ci) (s : Ns) (p : Nat) (hc : bo c) (hs : bN c s) (hp : p < c.procs.length) : CC (Lq c s p) := by
 have hnl := hc.nl
 have hcl := hc.cl
 have hpk : iA (c.procs.getD p ay) := hc.pr p hp
 have hl1 := hs.pl
 have hl2 := hs.cl
 have ht1 : (c.procs.getD p ay).takes.length ≤ 100 := hpk.tl
 have ht2 : (c.procs.getD p ay).puts.length ≤ 100 := hpk.pl
 refine an.vc (V := TT 8 (IX (p : Int) c.procs.length∧TT 4 (GO (oT c s p) 0 (∀ i,(oT c s p).inv i → TT 1 (CD ((i : Int) < ((((c.procs.getD p ay).takes).length : Nat) : Int)) (IX (i : Int) (((c.procs.getD p ay).takes).length)∧TT 8 (IX ((((c.procs.getD p ay).takes).getD i bM).chan) s.chans.length∧TT 5 (CD ((((s.chans.getD (((((c.procs.getD p ay).takes).getD i bM).chan).toNat) []).length : Nat) : Int) > 0) (TT 1 (IX 0 ((s.chans.getD (((((c.procs.getD p ay).takes).getD i bM).chan).toNat) []).length)∧TT 5 (aq [[(dB true),(i6 ((s.chans.getD (((((c.procs.getD p ay).takes).getD i bM).chan).toNat) []).getD 0 0))]] ([(⟨true,((s.chans.getD (((((c.procs.getD p ay).takes).getD i bM).chan).toNat) []).getD 0 0)⟩ : Hd)].map bx)∧((ao (cH c s p) i).length + ([(⟨true,((s.chans.getD (((((c.procs.getD p ay).takes).getD i bM).chan).toNat) []).getD 0 0)⟩ : Hd)].map bx).length ≤ 137438953472∧(ao (cH c s p) i).map bx ++ [(⟨true,((s.chans.getD (((((c.procs.getD p ay).takes).getD i bM).chan).toNat) []).getD 0 0)⟩ : Hd)].map bx = (ao (cH c s p) (i + 1)).map bx)∧TT 1 (W6 ((i + 1 : Nat) : Int)∧TT 1 (AG (oT c s p) i (i + 1)))))) (TT 2 (aq [[(dB false),(i6 0)]] ([(⟨false,0⟩ : Hd)].map bx)∧((ao (cH c s p) i).length + ([(⟨false,0⟩ : Hd)].map bx).length ≤ 137438953472∧(ao (cH c s p) i).map bx ++ [(⟨false,0⟩ : Hd)].map bx = (ao (cH c s p) (i + 1)).map bx)∧TT 1 (W6 ((i + 1 : Nat) : Int)∧TT 1 (AG (oT c s p) i (i + 1)))))))) (TT 3 (IX (p : Int) c.procs.length∧TT 4 (GO (oU c s p i) 0 (∀ m,(oU c s p i).inv m → TT 1 (CD ((m : Int) < ((((c.procs.getD p ay).puts).length : Nat) : Int)) (IX (m : Int) (((c.procs.getD p ay).puts).length)∧TT 7 (IX ((((c.procs.getD p ay).puts).getD m bj).chan) c.chans.length∧TT 3 (CS (((c.chans.getD (((((c.procs.getD p ay).puts).getD m bj).chan).toNat) ba).dst) = (-1)) (TT 4 ((True∧(decide (((c.chans.getD (((((c.procs.getD p ay).puts).getD m bj).chan).toNat) ba).dst) = (-1))) = true)∧TT 1 (aq [[(dB true)]] ([true].map aR)∧((ao (cI c s p) m).length + ([true].map aR).length ≤ 137438953472∧(ao (cI c s p) m).map aR ++ [true].map aR = (ao (cI c s p) (m + 1)).map aR)∧TT 1 (W6 ((m + 1 : Nat) : Int)∧TT 1 (AG (oU c s p i) m (m + 1)))))) (TT 4 ((True∧(decide (((c.chans.getD (((((c.procs.getD p ay).puts).getD m bj).chan).toNat) ba).dst) = (-1))) = false)∧TT 4 (IX ((((c.procs.getD p ay).puts).getD m bj).chan) s.chans.length∧TT 6 (aq [[(dB (decide ((((s.chans.getD (((((c.procs.getD p ay).puts).getD m bj).chan).toNat) []).length : Nat) : Int) < ((c.chans.getD (((((c.procs.getD p ay).puts).getD m bj).chan).toNat) ba).cap))))]] ([decide ((((s.chans.getD (((((c.procs.getD p ay).puts).getD m bj).chan).toNat) []).length : Nat) : Int) < ((c.chans.getD (((((c.procs.getD p ay).puts).getD m bj).chan).toNat) ba).cap))].map aR)∧((ao (cI c s p) m).length + ([decide ((((s.chans.getD (((((c.procs.getD p ay).puts).getD m bj).chan).toNat) []).length : Nat) : Int) < ((c.chans.getD (((((c.procs.getD p ay).puts).getD m bj).chan).toNat) ba).cap))].map aR).length ≤ 137438953472∧(ao (cI c s p) m).map aR ++ [decide ((((s.chans.getD (((((c.procs.getD p ay).puts).getD m bj).chan).toNat) []).length : Nat) : Int) < ((c.chans.getD (((((c.procs.getD p ay).puts).getD m bj).chan).toNat) ba).cap))].map aR = (ao (cI c s p) (m + 1)).map aR)∧TT 1 (W6 ((m + 1 : Nat) : Int)∧TT 1 (AG (oU c s p i) m (m + 1)))))))))) (TT 3 (IX (p : Int) c.procs.length∧TT 4 (IX (p : Int) s.procs.length∧TT 3 (CC (Oe (c.procs.getD p ay) (s.procs.getD p aU) (ao (cH c s p) i) (ao (cI c s p) m))∧TT 2 (((aY (c.procs.getD p ay) (s.procs.getD p aU) (ao (cH c s p) i) (ao (cI c s p) m)).fires) = ((ac c s p).fires)∧(((aY (c.procs.getD p ay) (s.procs.getD p aU) (ao (cH c s p) i) (ao (cI c s p) m)).s).regs).map (ah .i64) = (((ac c s p).s).regs).map (ah .i64)∧(((aY (c.procs.getD p ay) (s.procs.getD p aU) (ao (cH c s p) i) (ao (cI c s p) m)).s).mems).map af = (((ac c s p).s).mems).map af∧((aY (c.procs.getD p ay) (s.procs.getD p aU) (ao (cH c s p) i) (ao (cI c s p) m)).pops).map aR = ((ac c s p).pops).map aR∧((aY (c.procs.getD p ay) (s.procs.getD p aU) (ao (cH c s p) i) (ao (cI c s p) m)).puts).map bx = ((ac c s p).puts).map bx∧True))))))))))))))) (.gs 3 7 68 2 bx aK <| .l (oT c s p) 0 (fun i => .b 24 (.b 35 (.w 10 [(2,.box 68 2 bx aK [(⟨true,((s.chans.getD (((((c.procs.getD p ay).takes).getD i bM).chan).toNat) []).getD 0 0)⟩ : Hd)]),(3,.box 68 2 bx aK (ao (cH c s p) (i + 1)))] <| .w 11 [(0,.val (i6 ((i + 1 : Nat) : Int)))] <| .e) (.w 10 [(2,.box 68 2 bx aK [(⟨false,0⟩ : Hd)]),(3,.box 68 2 bx aK (ao (cH c s p) (i + 1)))] <| .w 11 [(0,.val (i6 ((i + 1 : Nat) : Int)))] <| .e)) (.gs 12 8 4 1 aR false <| .l (oU c s p i) 0 (fun m => .b 53 (.s 16 (((c.chans.getD (((((c.procs.getD p ay).puts).getD m bj).chan).toNat) ba).dst) = (-1)) (.w 16 [(4,.val (dB true)),(16,.box 4 1 aR false [true]),(17,.box 4 1 aR false (ao (cI c s p) (m + 1)))] <| .w 17 [(0,.val (i6 ((m + 1 : Nat) : Int)))] <| .e) (.w 16 [(4,.val (dB false)),(16,.box 4 1 aR false [decide ((((s.chans.getD (((((c.procs.getD p ay).puts).getD m bj).chan).toNat) []).length : Nat) : Int) < ((c.chans.getD (((((c.procs.getD p ay).puts).getD m bj).chan).toNat) ba).cap))]),(17,.box 4 1 aR false (ao (cI c s p) (m + 1)))] <| .w 17 [(0,.val (i6 ((m + 1 : Nat) : Int)))] <| .e)) (.f 18 3 <| .f 18 4 <| .w 18 [(12,(Oe (c.procs.getD p ay) (s.procs.getD p aU) (ao (cH c s p) i) (ao (cI c s p) m)).O)] <| .e))))) Tryz.func52 rfl rfl rfl (by kernel_rfl) ?_
 refine tt ⟨ix,tt ⟨rfl,(by omega),?_⟩⟩
 intro i hinv
 have hi := hinv
 refine tt (cd (fun hc24 => ?_) (fun hc24 => ?_))
 · refine ⟨ix,?_⟩
   have htk : 0 ≤ ((c.procs.getD p ay).takes.getD i bM).chan∧((c.procs.getD p ay).takes.getD i bM).chan < c.chans.length := ⟨(hc.tk p hp i (show i < (c.procs.getD p ay).takes.length by omega)).1,(hc.tk p hp i (show i < (c.procs.getD p ay).takes.length by omega)).2.1⟩
   refine tt ⟨ix,tt (cd (fun hc35 => ?_) (fun hc35 => ?_))⟩
   · refine tt ⟨ix,tt ⟨⟨⟨rfl,rfl,oK⟩,oK⟩,⟨(bS (by omega) (by first | exact (if_pos (show 0 < (s.chans.getD ((c.procs.getD p ay).takes.getD i bM).chan.toNat []).length by omega)).symm | exact (if_neg (show ¬0 < (s.chans.getD ((c.procs.getD p ay).takes.getD i bM).chan.toNat []).length by omega)).symm)),tt ⟨w6,tt ⟨(i + 1),rfl,(?_ : (i + 1) ≤ (c.procs.getD p ay).takes.length),(?_ : (c.procs.getD p ay).takes.length - (i + 1) < (c.procs.getD p ay).takes.length - i)⟩⟩⟩⟩⟩
     · omega
     · omega
   · refine tt ⟨⟨⟨rfl,rfl,oK⟩,oK⟩,⟨(bS (by omega) (by first | exact (if_pos (show 0 < (s.chans.getD ((c.procs.getD p ay).takes.getD i bM).chan.toNat []).length by omega)).symm | exact (if_neg (show ¬0 < (s.chans.getD ((c.procs.getD p ay).takes.getD i bM).chan.toNat []).length by omega)).symm)),tt ⟨w6,tt ⟨(i + 1),rfl,(?_ : (i + 1) ≤ (c.procs.getD p ay).takes.length),(?_ : (c.procs.getD p ay).takes.length - (i + 1) < (c.procs.getD p ay).takes.length - i)⟩⟩⟩⟩
     · omega
     · omega
 · refine tt ⟨ix,tt ⟨rfl,(by omega),?_⟩⟩
   intro m hinv
   have hm := hinv
   refine tt (cd (fun hc53 => ?_) (fun hc53 => ?_))
   · refine ⟨ix,?_⟩
     have hpt : 0 ≤ ((c.procs.getD p ay).puts.getD m bj).chan∧((c.procs.getD p ay).puts.getD m bj).chan < c.chans.length := ⟨(hc.pt p hp m (show m < (c.procs.getD p ay).puts.length by omega)).1,(hc.pt p hp m (show m < (c.procs.getD p ay).puts.length by omega)).2.1⟩
     refine tt ⟨ix,tt ⟨fun hs0 => ?_,fun hs0 => ?_⟩⟩
     · refine tt ⟨(vT hs0),tt ⟨⟨⟨rfl,oK⟩,oK⟩,⟨(bS (by omega) (by first | exact (zQ hs0).symm | exact (oS hs0).symm | exact (oS hs1).symm)),tt ⟨w6,tt ⟨(m + 1),rfl,(?_ : (m + 1) ≤ (c.procs.getD p ay).puts.length),(?_ : (c.procs.getD p ay).puts.length - (m + 1) < (c.procs.getD p ay).puts.length - m)⟩⟩⟩⟩⟩
       · omega
       · omega
     · refine tt ⟨(vF hs0),tt ⟨ix,tt ⟨⟨⟨rfl,oK⟩,oK⟩,⟨(bS (by omega) (by first | exact (zQ hs0).symm | exact (oS hs0).symm | exact (oS hs1).symm)),tt ⟨w6,tt ⟨(m + 1),rfl,(?_ : (m + 1) ≤ (c.procs.getD p ay).puts.length),(?_ : (c.procs.getD p ay).puts.length - (m + 1) < (c.procs.getD p ay).puts.length - m)⟩⟩⟩⟩⟩⟩
       · omega
       · omega
   · have hie : i = (c.procs.getD p ay).takes.length := by omega
     have hme : m = (c.procs.getD p ay).puts.length := by omega
     refine tt ⟨ix,tt ⟨ix,tt ⟨(H6 (c.procs.getD p ay) (s.procs.getD p aU) (ao (cH c s p) i) (ao (cI c s p) m) hpk (hs.pv p hp) (by rw [hie]; exact oM hc hs hp) (by rw [aN]; omega)),tt ⟨?_,(congrArg _ (?_ : (((aY (c.procs.getD p ay) (s.procs.getD p aU) (ao (cH c s p) i) (ao (cI c s p) m)).s).regs) = (((ac c s p).s).regs))),(congrArg _ (?_ : (((aY (c.procs.getD p ay) (s.procs.getD p aU) (ao (cH c s p) i) (ao (cI c s p) m)).s).mems) = (((ac c s p).s).mems))),(congrArg _ (?_ : ((aY (c.procs.getD p ay) (s.procs.getD p aU) (ao (cH c s p) i) (ao (cI c s p) m)).pops) = ((ac c s p).pops))),(congrArg _ (?_ : ((aY (c.procs.getD p ay) (s.procs.getD p aU) (ao (cH c s p) i) (ao (cI c s p) m)).puts) = ((ac c s p).puts))),oK⟩⟩⟩⟩
     all_goals (all_goals (rw [hie,hme]; rfl))
end Go.Proofs.YtifoecfajmnjjaaGreat
