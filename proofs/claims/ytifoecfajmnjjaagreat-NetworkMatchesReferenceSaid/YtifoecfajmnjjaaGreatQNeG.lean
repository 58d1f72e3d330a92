/-
  Package network: valid states, starts, what a process does.
-/
import Derived.Test.YtifoecfajmnjjaaGreatQNeE
namespace Go.Proofs.YtifoecfajmnjjaaGreat
open Go.RowKit
set_option linter.unusedVariables false
set_option linter.unusedSimpArgs false
abbrev nx (c : Ci) : List D := [(dL 6 eV av c.procs),(dL 5 iT aX c.chans)]
abbrev vn (s : Ns) : List D := [(dL 2 a8 a7 s.procs),(dL 1 af [] s.chans)]
set_option maxRecDepth 100000
abbrev Bv (c : Ci) (s : Ns) : Ct := ⟨14,[(.agg (nx c)),(.agg (vn s))],false,(dB (aV c s))⟩
abbrev mD (c : Ci) (s : Ns) : Lp (Nat) := fC [2,3,27,28,29] 2 (fun (i : Nat) => ⟨[(2,(.ptr 0 0 0 0)),(3,(.ptr 1 0 0 0)),(27,(dL 6 eV av c.procs)),(28,(i6 (c.procs.length : Int))),(29,(i6 (i : Int)))],[(.var 31 (nx c)),(.var 36 (vn s))]⟩) (fun (i : Nat) => i ≤ c.procs.length∧∀ z,z < i → br (bR c z) (zL s z) = true) (fun (i : Nat) => c.procs.length - i)
abbrev hU (c : Ci) (s : Ns) : Lp (Nat) := fC [3,44,45,46] 2 (fun (n : Nat) => ⟨[(3,(.ptr 1 0 0 0)),(44,(dL 5 iT aX c.chans)),(45,(i6 (c.chans.length : Int))),(46,(i6 (n : Int)))],[(.var 31 (nx c)),(.var 36 (vn s))]⟩) (fun (n : Nat) => n ≤ c.chans.length∧∀ z,z < n → gJ c s z = true) (fun (n : Nat) => c.chans.length - n)
theorem hX (c : Ci) (s : Ns) (hc : bK c) (hsm : fD s 9223372036854775807) : CC (Bv c s) := by
 have hnl := hc.nl
 have hcl := hc.cl
 refine ai.vc (V := TT 3 (CS ((s.procs.length : Int) = (c.procs.length : Int)) (TT 7 ((True∧(!decide ((s.procs.length : Int) = (c.procs.length : Int))) = false)∧TT 8 (CN ((s.chans.length : Int) = (c.chans.length : Int)) (TT 2 (false = (aV c s)∧True)) (TT 4 (GO (mD c s) 0 (∀ i,(mD c s).inv i → TT 1 (CD ((i : Int) < (c.procs.length : Int)) (TT 1 (IX (i : Int) c.procs.length∧TT 8 (IX (i : Int) s.procs.length∧TT 1 (CC (Kp (c.procs.getD i av) (s.procs.getD i a7))∧TT 1 (CB (!(br (c.procs.getD i av) (s.procs.getD i a7))) (TT 2 (false = (aV c s)∧True)) (W6 ((i + 1 : Nat) : Int)∧TT 1 (AG (mD c s) i (i + 1)))))))) (TT 4 (GO (hU c s) 0 (∀ n,(hU c s).inv n → TT 1 (CD ((n : Int) < (c.chans.length : Int)) (TT 1 (IX (n : Int) c.chans.length∧TT 4 (CS (((c.chans.getD n aX).frm) ≥ 0) (TT 3 ((True∧(decide (((c.chans.getD n aX).frm) ≥ 0)) = true)∧TT 5 (CS ((b6 (s.chans.getD n []) ((c.chans.getD n aX).w)) = true) (CS (((c.chans.getD n aX).dst) ≥ 0) (TT 3 (IX (n : Int) s.chans.length∧TT 3 (CC (CF (s.chans.getD n []) ((c.chans.getD n aX).w))∧TT 1 ((True∧(!(b6 (s.chans.getD n []) ((c.chans.getD n aX).w))) = false)∧TT 1 ((True∧(decide (((c.chans.getD n aX).dst) ≥ 0)) = true)∧TT 3 (IX (n : Int) s.chans.length∧TT 7 (CD ((((s.chans.getD n []).length : Nat) : Int) > ((c.chans.getD n aX).cap)) (TT 2 (false = (aV c s)∧True)) (W6 ((n + 1 : Nat) : Int)∧TT 1 (AG (hU c s) n (n + 1)))))))))) (TT 3 (IX (n : Int) s.chans.length∧TT 3 (CC (CF (s.chans.getD n []) ((c.chans.getD n aX).w))∧TT 1 ((True∧(!(b6 (s.chans.getD n []) ((c.chans.getD n aX).w))) = false)∧TT 1 ((True∧(decide (((c.chans.getD n aX).dst) ≥ 0)) = false)∧TT 2 (W6 ((n + 1 : Nat) : Int)∧TT 1 (AG (hU c s) n (n + 1))))))))) (TT 3 (IX (n : Int) s.chans.length∧TT 3 (CC (CF (s.chans.getD n []) ((c.chans.getD n aX).w))∧TT 1 ((True∧(!(b6 (s.chans.getD n []) ((c.chans.getD n aX).w))) = true)∧TT 3 (false = (aV c s)∧True)))))))) (TT 3 ((True∧(decide (((c.chans.getD n aX).frm) ≥ 0)) = false)∧TT 5 (CS ((b6 (s.chans.getD n []) ((c.chans.getD n aX).w)) = true) (TT 3 (IX (n : Int) s.chans.length∧TT 3 (CC (CF (s.chans.getD n []) ((c.chans.getD n aX).w))∧TT 1 ((True∧(!(b6 (s.chans.getD n []) ((c.chans.getD n aX).w))) = false)∧TT 4 (W6 ((n + 1 : Nat) : Int)∧TT 1 (AG (hU c s) n (n + 1))))))) (TT 3 (IX (n : Int) s.chans.length∧TT 3 (CC (CF (s.chans.getD n []) ((c.chans.getD n aX).w))∧TT 1 ((True∧(!(b6 (s.chans.getD n []) ((c.chans.getD n aX).w))) = true)∧TT 3 (false = (aV c s)∧True))))))))))) (TT 2 (true = (aV c s)∧True))))))))))))) (TT 7 ((True∧(!decide ((s.procs.length : Int) = (c.procs.length : Int))) = true)∧TT 10 (false = (aV c s)∧True))))) (.s 1 ((s.procs.length : Int) = (c.procs.length : Int)) (.w 1 [(7,.val (dB false))] <| .b 25 (.e) (.l (mD c s) 0 (fun i => .b 30 (.w 6 [(6,(Kp (c.procs.getD i av) (s.procs.getD i a7)).O)] <| .b 41 (.e) (.w 8 [(0,.val (i6 ((i + 1 : Nat) : Int)))] <| .e)) (.l (hU c s) 0 (fun n => .b 47 (.s 12 (((c.chans.getD n aX).frm) ≥ 0) (.w 12 [(3,.val (dB true))] <| .s 13 ((b6 (s.chans.getD n []) ((c.chans.getD n aX).w)) = true) (.s 13 (((c.chans.getD n aX).dst) ≥ 0) (.w 13 [(7,(CF (s.chans.getD n []) ((c.chans.getD n aX).w)).O),(9,.val (dB false)),(11,.val (dB true))] <| .b 81 (.e) (.w 15 [(0,.val (i6 ((n + 1 : Nat) : Int)))] <| .e)) (.w 13 [(7,(CF (s.chans.getD n []) ((c.chans.getD n aX).w)).O),(9,.val (dB false)),(11,.val (dB false))] <| .w 15 [(0,.val (i6 ((n + 1 : Nat) : Int)))] <| .e)) (.w 13 [(7,(CF (s.chans.getD n []) ((c.chans.getD n aX).w)).O),(9,.val (dB true))] <| .e)) (.w 12 [(3,.val (dB false))] <| .s 13 ((b6 (s.chans.getD n []) ((c.chans.getD n aX).w)) = true) (.w 13 [(7,(CF (s.chans.getD n []) ((c.chans.getD n aX).w)).O),(9,.val (dB false))] <| .w 15 [(0,.val (i6 ((n + 1 : Nat) : Int)))] <| .e) (.w 13 [(7,(CF (s.chans.getD n []) ((c.chans.getD n aX).w)).O),(9,.val (dB true))] <| .e))) (.e)))))) (.w 1 [(7,.val (dB true))] <| .e)) Tryz.func14 rfl rfl rfl (by kernel_rfl) ?_
 refine tt ⟨fun hs0 => ?_,fun hs0 => ?_⟩
 · refine tt ⟨(nF hs0),tt (cn (fun hc25 => ?_) (fun hc25 => ?_))⟩
   · refine tt ⟨?_,oK⟩
     first | exact (fP (by omega)).symm | exact (fQ (by omega)).symm | exact (fR (i := i) (by omega) (by simpa using hc41)).symm | exact (ck (n := n) (by omega) (dj (by first | exact hs2 | exact hs4))).symm | exact (ck (n := n) (by omega) (dk (by show 0 ≤ (c.chans.getD n aX).frm; omega) (by show 0 ≤ (c.chans.getD n aX).dst; omega) (by show ¬((s.chans.getD n []).length : Int) ≤ (c.chans.getD n aX).cap; omega))).symm | exact (fS (by omega) (by omega) (fun z hz => h3 z (by omega)) (fun z hz => h4 z (by omega))).symm
   · refine tt ⟨rfl,⟨by omega,fun z hz => by omega⟩,?_⟩
     intro i hinv
     obtain ⟨hi,h3⟩ := hinv
     refine tt (cd (fun hc30 => ?_) (fun hc30 => ?_))
     · refine tt ⟨ix,?_⟩
       have hpk := hc.pr i (by omega)
       refine tt ⟨ix,tt ⟨(Cv (c.procs.getD i av) (s.procs.getD i a7) hpk),tt ⟨fun hc41 => ?_,fun hc41 => ?_⟩⟩⟩
       · refine tt ⟨?_,oK⟩
         first | exact (fP (by omega)).symm | exact (fQ (by omega)).symm | exact (fR (i := i) (by omega) (by simpa using hc41)).symm | exact (ck (n := n) (by omega) (dj (by first | exact hs2 | exact hs4))).symm | exact (ck (n := n) (by omega) (dk (by show 0 ≤ (c.chans.getD n aX).frm; omega) (by show 0 ≤ (c.chans.getD n aX).dst; omega) (by show ¬((s.chans.getD n []).length : Int) ≤ (c.chans.getD n aX).cap; omega))).symm | exact (fS (by omega) (by omega) (fun z hz => h3 z (by omega)) (fun z hz => h4 z (by omega))).symm
       · refine ⟨w6,tt ⟨(i + 1),rfl,?_,(?_ : c.procs.length - (i + 1) < c.procs.length - i)⟩⟩
         · exact ⟨by omega,bZ h3 (by simpa using hc41)⟩
         · omega
     · refine tt ⟨rfl,⟨by omega,fun z hz => by omega⟩,?_⟩
       intro n hinv
       obtain ⟨hn,h4⟩ := hinv
       refine tt (cd (fun hc47 => ?_) (fun hc47 => ?_))
       · refine tt ⟨ix,tt ?_⟩
         have hw : 1 ≤ (c.chans.getD n aX).w∧(c.chans.getD n aX).w ≤ 8 := aW.1 (hc.cw n (by omega))
         have hlw : (s.chans.getD n []).length ≤ 9223372036854775807 := hsm n
         refine ⟨fun hs1 => ?_,fun hs1 => ?_⟩
         · refine tt ⟨(vT hs1),tt ⟨fun hs2 => ?_,fun hs2 => ?_⟩⟩
           · refine ⟨fun hs3 => ?_,fun hs3 => ?_⟩
             · refine tt ⟨ix,tt ⟨(hT (s.chans.getD n []) ((c.chans.getD n aX).w) (by omega) (by omega) hlw),tt ⟨(mF hs2),tt ⟨(vT hs3),tt ⟨ix,tt (cd (fun hc81 => ?_) (fun hc81 => ?_))⟩⟩⟩⟩⟩
               · refine tt ⟨?_,oK⟩
                 first | exact (fP (by omega)).symm | exact (fQ (by omega)).symm | exact (fR (i := i) (by omega) (by simpa using hc41)).symm | exact (ck (n := n) (by omega) (dj (by first | exact hs2 | exact hs4))).symm | exact (ck (n := n) (by omega) (dk (by show 0 ≤ (c.chans.getD n aX).frm; omega) (by show 0 ≤ (c.chans.getD n aX).dst; omega) (by show ¬((s.chans.getD n []).length : Int) ≤ (c.chans.getD n aX).cap; omega))).symm | exact (fS (by omega) (by omega) (fun z hz => h3 z (by omega)) (fun z hz => h4 z (by omega))).symm
               · refine ⟨w6,tt ⟨(n + 1),rfl,?_,(?_ : c.chans.length - (n + 1) < c.chans.length - n)⟩⟩
                 · refine ⟨by omega,bZ h4 ?_⟩
                   first | exact qT (by first | exact hs2 | exact hs4) (by show ¬0 ≤ (c.chans.getD n aX).frm; omega) | exact qU (by first | exact hs2 | exact hs4) (by show ¬0 ≤ (c.chans.getD n aX).dst; omega) | exact qV (by first | exact hs2 | exact hs4) (by show ((s.chans.getD n []).length : Int) ≤ (c.chans.getD n aX).cap; omega)
                 · omega
             · refine tt ⟨ix,tt ⟨(hT (s.chans.getD n []) ((c.chans.getD n aX).w) (by omega) (by omega) hlw),tt ⟨(mF hs2),tt ⟨(vF hs3),tt ⟨w6,tt ⟨(n + 1),rfl,?_,(?_ : c.chans.length - (n + 1) < c.chans.length - n)⟩⟩⟩⟩⟩⟩
               · refine ⟨by omega,bZ h4 ?_⟩
                 first | exact qT (by first | exact hs2 | exact hs4) (by show ¬0 ≤ (c.chans.getD n aX).frm; omega) | exact qU (by first | exact hs2 | exact hs4) (by show ¬0 ≤ (c.chans.getD n aX).dst; omega) | exact qV (by first | exact hs2 | exact hs4) (by show ((s.chans.getD n []).length : Int) ≤ (c.chans.getD n aX).cap; omega)
               · omega
           · refine tt ⟨ix,tt ⟨(hT (s.chans.getD n []) ((c.chans.getD n aX).w) (by omega) (by omega) hlw),tt ⟨(mT hs2),tt ⟨?_,oK⟩⟩⟩⟩
             first | exact (fP (by omega)).symm | exact (fQ (by omega)).symm | exact (fR (i := i) (by omega) (by simpa using hc41)).symm | exact (ck (n := n) (by omega) (dj (by first | exact hs2 | exact hs4))).symm | exact (ck (n := n) (by omega) (dk (by show 0 ≤ (c.chans.getD n aX).frm; omega) (by show 0 ≤ (c.chans.getD n aX).dst; omega) (by show ¬((s.chans.getD n []).length : Int) ≤ (c.chans.getD n aX).cap; omega))).symm | exact (fS (by omega) (by omega) (fun z hz => h3 z (by omega)) (fun z hz => h4 z (by omega))).symm
         · refine tt ⟨(vF hs1),tt ⟨fun hs4 => ?_,fun hs4 => ?_⟩⟩
           · refine tt ⟨ix,tt ⟨(hT (s.chans.getD n []) ((c.chans.getD n aX).w) (by omega) (by omega) hlw),tt ⟨(mF hs4),tt ⟨w6,tt ⟨(n + 1),rfl,?_,(?_ : c.chans.length - (n + 1) < c.chans.length - n)⟩⟩⟩⟩⟩
             · refine ⟨by omega,bZ h4 ?_⟩
               first | exact qT (by first | exact hs2 | exact hs4) (by show ¬0 ≤ (c.chans.getD n aX).frm; omega) | exact qU (by first | exact hs2 | exact hs4) (by show ¬0 ≤ (c.chans.getD n aX).dst; omega) | exact qV (by first | exact hs2 | exact hs4) (by show ((s.chans.getD n []).length : Int) ≤ (c.chans.getD n aX).cap; omega)
             · omega
           · refine tt ⟨ix,tt ⟨(hT (s.chans.getD n []) ((c.chans.getD n aX).w) (by omega) (by omega) hlw),tt ⟨(mT hs4),tt ⟨?_,oK⟩⟩⟩⟩
             first | exact (fP (by omega)).symm | exact (fQ (by omega)).symm | exact (fR (i := i) (by omega) (by simpa using hc41)).symm | exact (ck (n := n) (by omega) (dj (by first | exact hs2 | exact hs4))).symm | exact (ck (n := n) (by omega) (dk (by show 0 ≤ (c.chans.getD n aX).frm; omega) (by show 0 ≤ (c.chans.getD n aX).dst; omega) (by show ¬((s.chans.getD n []).length : Int) ≤ (c.chans.getD n aX).cap; omega))).symm | exact (fS (by omega) (by omega) (fun z hz => h3 z (by omega)) (fun z hz => h4 z (by omega))).symm
       · refine tt ⟨?_,oK⟩
         first | exact (fP (by omega)).symm | exact (fQ (by omega)).symm | exact (fR (i := i) (by omega) (by simpa using hc41)).symm | exact (ck (n := n) (by omega) (dj (by first | exact hs2 | exact hs4))).symm | exact (ck (n := n) (by omega) (dk (by show 0 ≤ (c.chans.getD n aX).frm; omega) (by show 0 ≤ (c.chans.getD n aX).dst; omega) (by show ¬((s.chans.getD n []).length : Int) ≤ (c.chans.getD n aX).cap; omega))).symm | exact (fS (by omega) (by omega) (fun z hz => h3 z (by omega)) (fun z hz => h4 z (by omega))).symm
 · refine tt ⟨(nT hs0),tt ⟨?_,oK⟩⟩
   first | exact (fP (by omega)).symm | exact (fQ (by omega)).symm | exact (fR (i := i) (by omega) (by simpa using hc41)).symm | exact (ck (n := n) (by omega) (dj (by first | exact hs2 | exact hs4))).symm | exact (ck (n := n) (by omega) (dk (by show 0 ≤ (c.chans.getD n aX).frm; omega) (by show 0 ≤ (c.chans.getD n aX).dst; omega) (by show ¬((s.chans.getD n []).length : Int) ≤ (c.chans.getD n aX).cap; omega))).symm | exact (fS (by omega) (by omega) (fun z hz => h3 z (by omega)) (fun z hz => h4 z (by omega))).symm
abbrev HN (c : Ci) : Ct := ⟨26,[(.agg (nx c))],true,(.agg [(dL 2 a8 a7 ((ao c).procs)),(dL 1 af [] ((ao c).chans))])⟩
abbrev mE (c : Ci) : Lp (Nat) := fC [2,3,12,13,14] 5 (fun (i : Nat) => ⟨[(2,(.ptr 1 0 0 0)),(3,(.ptr 3 0 0 0)),(12,(dL 6 eV av c.procs)),(13,(i6 (c.procs.length : Int))),(14,(i6 (i : Int)))],[(.var 31 (nx c)),(.var 36 [.nils,.nils]),(.arr 43 1 af [] (List.replicate c.chans.length ([] : List Int))),(.var 36 [(.own 4),(.own 2)]),(.arr 45 2 a8 a7 (aq (fun i => aY (bR c i)) i))]⟩) (fun (i : Nat) => i ≤ c.procs.length) (fun (i : Nat) => c.procs.length - i)
theorem qW (c : Ci) (hc : bK c) : CC (HN c) := by
 have hnl := hc.nl
 have hcl := hc.cl
 refine ai.vc (V := TT 5 ((((0 : Int) ≤ (c.chans.length : Int)∧(c.chans.length : Int) ≤ (c.chans.length : Int)∧(c.chans.length : Int) ≤ 137438953472)∧(List.replicate c.chans.length ([] : List Int)).length = c.chans.length∧∀ x ∈ (List.replicate c.chans.length ([] : List Int)),cz [.nils] (af x))∧TT 7 (GO (mE c) 0 (∀ i,(mE c).inv i → TT 1 (CD ((i : Int) < (c.procs.length : Int)) (IX (i : Int) c.procs.length∧TT 6 (CC (Kq (c.procs.getD i av))∧ap [[(LI ((aY (c.procs.getD i av)).regs)),(dL 1 af [] ((aY (c.procs.getD i av)).mems))]] ([(⟨(aY (c.procs.getD i av)).regs,(aY (c.procs.getD i av)).mems⟩ : Ps)].map a8)∧((aq (fun i => aY (bR c i)) i).length + ([(⟨(aY (c.procs.getD i av)).regs,(aY (c.procs.getD i av)).mems⟩ : Ps)].map a8).length ≤ 137438953472∧(aq (fun i => aY (bR c i)) i).map a8 ++ [(⟨(aY (c.procs.getD i av)).regs,(aY (c.procs.getD i av)).mems⟩ : Ps)].map a8 = (aq (fun i => aY (bR c i)) (i + 1)).map a8)∧TT 2 (W6 ((i + 1 : Nat) : Int)∧TT 1 (AG (mE c) i (i + 1))))) (TT 3 ((aq (fun i => aY (bR c i)) i).map a8 = ((ao c).procs).map a8∧(List.replicate c.chans.length ([] : List Int)).map af = ((ao c).chans).map af∧True))))))) (.w 1 [(3,.box 43 1 af [] (List.replicate c.chans.length ([] : List Int)))] <| .g 2 3 0 45 2 a8 a7 <| .l (mE c) 0 (fun i => .b 15 (.w 5 [(3,(Kq (c.procs.getD i av)).O),(4,.box 45 2 a8 a7 [(⟨(aY (c.procs.getD i av)).regs,(aY (c.procs.getD i av)).mems⟩ : Ps)]),(5,.box 45 2 a8 a7 (aq (fun i => aY (bR c i)) (i + 1)))] <| .w 6 [(0,.val (i6 ((i + 1 : Nat) : Int)))] <| .e) (.e))) Tryz.func26 rfl rfl rfl (by kernel_rfl) ?_
 refine tt ⟨⟨by omega,by simp,fun x hx => by rw [List.eq_of_mem_replicate hx]; exact ⟨rfl,oK⟩⟩,tt ⟨rfl,(by omega),?_⟩⟩
 intro i hinv
 have hi := hinv
 refine tt (cd (fun hc15 => ?_) (fun hc15 => ?_))
 · refine ⟨ix,?_⟩
   have hpk := hc.pr i (by omega)
   refine tt ⟨(Cw (c.procs.getD i av) hpk),⟨⟨⟨rfl,rfl,oK⟩,oK⟩,⟨(f8 (f := fun i => aY (bR c i)) (by omega)),tt ⟨w6,tt ⟨(i + 1),rfl,(?_ : (i + 1) ≤ c.procs.length),(?_ : c.procs.length - (i + 1) < c.procs.length - i)⟩⟩⟩⟩⟩
   · omega
   · omega
 · refine tt ⟨(congrArg _ (?_ : (aq (fun i => aY (bR c i)) i) = ((ao c).procs))),(congrArg _ (?_ : (List.replicate c.chans.length ([] : List Int)) = ((ao c).chans))),oK⟩
   · rw [show i = c.procs.length by omega]; rfl
   · rfl
abbrev Ky (h : Ch) : Ct := ⟨83,[(.agg [(dS h.name),(i6 h.w),(i6 h.cap),(i6 h.frm),(i6 h.dst)])],false,(i6 h.frm)⟩
theorem EJ (h : Ch) : CC (Ky h) := by
 refine ai.vc (V := TT 6 (h.frm = h.frm∧True)) (.e) Tryz.func83 rfl rfl rfl (by kernel_rfl) ?_
 exact tt ⟨rfl,oK⟩
abbrev Kz (h : Ch) : Ct := ⟨86,[(.agg [(dS h.name),(i6 h.w),(i6 h.cap),(i6 h.frm),(i6 h.dst)])],false,(i6 h.dst)⟩
theorem EK (h : Ch) : CC (Kz h) := by
 refine ai.vc (V := TT 6 (h.dst = h.dst∧True)) (.e) Tryz.func86 rfl rfl rfl (by kernel_rfl) ?_
 exact tt ⟨rfl,oK⟩
abbrev EL (c : Ci) (n : Int) : Ct := ⟨82,[(.agg (nx c)),(i6 n),(.fn (.func 83) [] [])],false,(dB (dF (·.frm) c n))⟩
theorem yh (c : Ci) (n : Int) (hc : bK c) : CC (EL c n) := by
 have hnl := hc.nl
 have hcl := hc.cl
 refine ai.vc (V := TT 2 (CS (n ≥ 0) (CS (n < (c.chans.length : Int)) (TT 2 ((True∧(decide (n ≥ 0)) = true)∧TT 6 ((True∧(decide (n < (c.chans.length : Int))) = true)∧TT 4 (IX n c.chans.length∧TT 1 (CC (Ky (c.chans.getD n.toNat aX))∧TT 4 ((((c.chans.getD n.toNat aX).frm) == (-1)) = (dF (·.frm) c n)∧True)))))) (TT 2 ((True∧(decide (n ≥ 0)) = true)∧TT 6 ((True∧(decide (n < (c.chans.length : Int))) = false)∧TT 11 (false = (dF (·.frm) c n)∧True))))) (TT 2 ((True∧(decide (n ≥ 0)) = false)∧TT 18 (false = (dF (·.frm) c n)∧True))))) (.s 1 (n ≥ 0) (.s 1 (n < (c.chans.length : Int)) (.w 1 [(2,.val (dB true)),(9,.val (dB true)),(16,(Ky (c.chans.getD n.toNat aX)).O)] <| .e) (.w 1 [(2,.val (dB true)),(9,.val (dB false))] <| .e)) (.w 1 [(2,.val (dB false))] <| .e)) Tryz.func82 rfl rfl rfl (by kernel_rfl) ?_
 refine tt ⟨fun hs0 => ?_,fun hs0 => ?_⟩
 · refine ⟨fun hs1 => ?_,fun hs1 => ?_⟩
   · refine tt ⟨(vT hs0),tt ⟨(vT hs1),tt ⟨ix,tt ⟨(EJ (c.chans.getD n.toNat aX)),tt ⟨?_,oK⟩⟩⟩⟩⟩
     first | exact (cK (by omega)).symm | exact (cL (by omega)).symm | exact (eT (by omega) (by omega)).symm | (rw [eT (by omega) (by omega)]; simp)
   · refine tt ⟨(vT hs0),tt ⟨(vF hs1),tt ⟨?_,oK⟩⟩⟩
     first | exact (cK (by omega)).symm | exact (cL (by omega)).symm | exact (eT (by omega) (by omega)).symm | (rw [eT (by omega) (by omega)]; simp)
 · refine tt ⟨(vF hs0),tt ⟨?_,oK⟩⟩
   first | exact (cK (by omega)).symm | exact (cL (by omega)).symm | exact (eT (by omega) (by omega)).symm | (rw [eT (by omega) (by omega)]; simp)
abbrev HO (c : Ci) (n : Int) : Ct := ⟨82,[(.agg (nx c)),(i6 n),(.fn (.func 86) [] [])],false,(dB (dF (·.dst) c n))⟩
theorem EM (c : Ci) (n : Int) (hc : bK c) : CC (HO c n) := by
 have hnl := hc.nl
 have hcl := hc.cl
 refine ai.vc (V := TT 2 (CS (n ≥ 0) (CS (n < (c.chans.length : Int)) (TT 2 ((True∧(decide (n ≥ 0)) = true)∧TT 6 ((True∧(decide (n < (c.chans.length : Int))) = true)∧TT 4 (IX n c.chans.length∧TT 1 (CC (Kz (c.chans.getD n.toNat aX))∧TT 4 ((((c.chans.getD n.toNat aX).dst) == (-1)) = (dF (·.dst) c n)∧True)))))) (TT 2 ((True∧(decide (n ≥ 0)) = true)∧TT 6 ((True∧(decide (n < (c.chans.length : Int))) = false)∧TT 11 (false = (dF (·.dst) c n)∧True))))) (TT 2 ((True∧(decide (n ≥ 0)) = false)∧TT 18 (false = (dF (·.dst) c n)∧True))))) (.s 1 (n ≥ 0) (.s 1 (n < (c.chans.length : Int)) (.w 1 [(2,.val (dB true)),(9,.val (dB true)),(16,(Kz (c.chans.getD n.toNat aX)).O)] <| .e) (.w 1 [(2,.val (dB true)),(9,.val (dB false))] <| .e)) (.w 1 [(2,.val (dB false))] <| .e)) Tryz.func82 rfl rfl rfl (by kernel_rfl) ?_
 refine tt ⟨fun hs0 => ?_,fun hs0 => ?_⟩
 · refine ⟨fun hs1 => ?_,fun hs1 => ?_⟩
   · refine tt ⟨(vT hs0),tt ⟨(vT hs1),tt ⟨ix,tt ⟨(EK (c.chans.getD n.toNat aX)),tt ⟨?_,oK⟩⟩⟩⟩⟩
     first | exact (cK (by omega)).symm | exact (cL (by omega)).symm | exact (eT (by omega) (by omega)).symm | (rw [eT (by omega) (by omega)]; simp)
   · refine tt ⟨(vT hs0),tt ⟨(vF hs1),tt ⟨?_,oK⟩⟩⟩
     first | exact (cK (by omega)).symm | exact (cL (by omega)).symm | exact (eT (by omega) (by omega)).symm | (rw [eT (by omega) (by omega)]; simp)
 · refine tt ⟨(vF hs0),tt ⟨?_,oK⟩⟩
   first | exact (cK (by omega)).symm | exact (cL (by omega)).symm | exact (eT (by omega) (by omega)).symm | (rw [eT (by omega) (by omega)]; simp)
abbrev HP (c : Ci) (s : Ns) (p : Nat) : Ct := ⟨52,[(.agg (nx c)),(.agg (vn s)),(i6 (p : Int))],true,(.agg [(dB ((ab c s p).fires)),(LI (((ab c s p).s).regs)),(dL 1 af [] (((ab c s p).s).mems)),(LB ((ab c s p).pops)),(dL 2 bp aK ((ab c s p).puts))])⟩
abbrev lP (c : Ci) (s : Ns) (p : Nat) : Lp (Nat) := fC [2,3,4,6,7,8,21,22,23] 4 (fun (i : Nat) => ⟨[(2,(i6 (p : Int))),(3,(.ptr 0 0 0 0)),(4,(.ptr 1 0 0 0)),(6,(.ptr 2 0 0 0)),(7,(.own 3)),(8,.nils),(21,(dL 9 iQ bo ((c.procs.getD p av).takes))),(22,(i6 ((((c.procs.getD p av).takes).length : Nat) : Int))),(23,(i6 (i : Int)))],[(.var 31 (nx c)),(.var 36 (vn s)),(.var 48 [(dB false),.nils,.nils,.nils,.nils]),(.arr 68 2 bp aK (aq (b9 c s p) i))]⟩) (fun (i : Nat) => i ≤ (c.procs.getD p av).takes.length) (fun (i : Nat) => (c.procs.getD p av).takes.length - i)
abbrev lQ (c : Ci) (s : Ns) (p : Nat) (i : Nat) : Lp (Nat) := fC [2,3,4,6,7,8,50,51,52] 5 (fun (m : Nat) => ⟨[(2,(i6 (p : Int))),(3,(.ptr 0 0 0 0)),(4,(.ptr 1 0 0 0)),(6,(.ptr 2 0 0 0)),(7,(.own 3)),(8,(.own 4)),(50,(dL 16 fa a6 ((c.procs.getD p av).puts))),(51,(i6 ((((c.procs.getD p av).puts).length : Nat) : Int))),(52,(i6 (m : Int)))],[(.var 31 (nx c)),(.var 36 (vn s)),(.var 48 [(dB false),.nils,.nils,.nils,.nils]),(.arr 68 2 bp aK (aq (b9 c s p) i)),(.arr 4 1 aJ false (aq (ca c s p) m))]⟩) (fun (m : Nat) => m ≤ (c.procs.getD p av).puts.length) (fun (m : Nat) => (c.procs.getD p av).puts.length - m)
theorem tq (c : Ci) (s : Ns) (p : Nat) (hc : bK c) (hs : bX c s) (hp : p < c.procs.length) : CC (HP c s p) := by
 have hnl := hc.nl
 have hcl := hc.cl
 have hpk : fM (c.procs.getD p av) := hc.pr p hp
 have hl1 := hs.pl
 have hl2 := hs.cl
 have ht1 : (c.procs.getD p av).takes.length ≤ 100 := hpk.tl
 have ht2 : (c.procs.getD p av).puts.length ≤ 100 := hpk.pl
 refine ai.vc (V := TT 8 (IX (p : Int) c.procs.length∧TT 4 (GO (lP c s p) 0 (∀ i,(lP c s p).inv i → TT 1 (CD ((i : Int) < ((((c.procs.getD p av).takes).length : Nat) : Int)) (IX (i : Int) (((c.procs.getD p av).takes).length)∧TT 8 (IX ((((c.procs.getD p av).takes).getD i bo).chan) s.chans.length∧TT 5 (CD ((((s.chans.getD (((((c.procs.getD p av).takes).getD i bo).chan).toNat) []).length : Nat) : Int) > 0) (TT 1 (IX 0 ((s.chans.getD (((((c.procs.getD p av).takes).getD i bo).chan).toNat) []).length)∧TT 5 (ap [[(dB true),(i6 ((s.chans.getD (((((c.procs.getD p av).takes).getD i bo).chan).toNat) []).getD 0 0))]] ([(⟨true,((s.chans.getD (((((c.procs.getD p av).takes).getD i bo).chan).toNat) []).getD 0 0)⟩ : Hd)].map bp)∧((aq (b9 c s p) i).length + ([(⟨true,((s.chans.getD (((((c.procs.getD p av).takes).getD i bo).chan).toNat) []).getD 0 0)⟩ : Hd)].map bp).length ≤ 137438953472∧(aq (b9 c s p) i).map bp ++ [(⟨true,((s.chans.getD (((((c.procs.getD p av).takes).getD i bo).chan).toNat) []).getD 0 0)⟩ : Hd)].map bp = (aq (b9 c s p) (i + 1)).map bp)∧TT 1 (W6 ((i + 1 : Nat) : Int)∧TT 1 (AG (lP c s p) i (i + 1)))))) (TT 2 (ap [[(dB false),(i6 0)]] ([(⟨false,0⟩ : Hd)].map bp)∧((aq (b9 c s p) i).length + ([(⟨false,0⟩ : Hd)].map bp).length ≤ 137438953472∧(aq (b9 c s p) i).map bp ++ [(⟨false,0⟩ : Hd)].map bp = (aq (b9 c s p) (i + 1)).map bp)∧TT 1 (W6 ((i + 1 : Nat) : Int)∧TT 1 (AG (lP c s p) i (i + 1)))))))) (TT 3 (IX (p : Int) c.procs.length∧TT 4 (GO (lQ c s p i) 0 (∀ m,(lQ c s p i).inv m → TT 1 (CD ((m : Int) < ((((c.procs.getD p av).puts).length : Nat) : Int)) (IX (m : Int) (((c.procs.getD p av).puts).length)∧TT 7 (IX ((((c.procs.getD p av).puts).getD m a6).chan) c.chans.length∧TT 3 (CS (((c.chans.getD (((((c.procs.getD p av).puts).getD m a6).chan).toNat) aX).dst) = (-1)) (TT 4 ((True∧(decide (((c.chans.getD (((((c.procs.getD p av).puts).getD m a6).chan).toNat) aX).dst) = (-1))) = true)∧TT 1 (ap [[(dB true)]] ([true].map aJ)∧((aq (ca c s p) m).length + ([true].map aJ).length ≤ 137438953472∧(aq (ca c s p) m).map aJ ++ [true].map aJ = (aq (ca c s p) (m + 1)).map aJ)∧TT 1 (W6 ((m + 1 : Nat) : Int)∧TT 1 (AG (lQ c s p i) m (m + 1)))))) (TT 4 ((True∧(decide (((c.chans.getD (((((c.procs.getD p av).puts).getD m a6).chan).toNat) aX).dst) = (-1))) = false)∧TT 4 (IX ((((c.procs.getD p av).puts).getD m a6).chan) s.chans.length∧TT 6 (ap [[(dB (decide ((((s.chans.getD (((((c.procs.getD p av).puts).getD m a6).chan).toNat) []).length : Nat) : Int) < ((c.chans.getD (((((c.procs.getD p av).puts).getD m a6).chan).toNat) aX).cap))))]] ([decide ((((s.chans.getD (((((c.procs.getD p av).puts).getD m a6).chan).toNat) []).length : Nat) : Int) < ((c.chans.getD (((((c.procs.getD p av).puts).getD m a6).chan).toNat) aX).cap))].map aJ)∧((aq (ca c s p) m).length + ([decide ((((s.chans.getD (((((c.procs.getD p av).puts).getD m a6).chan).toNat) []).length : Nat) : Int) < ((c.chans.getD (((((c.procs.getD p av).puts).getD m a6).chan).toNat) aX).cap))].map aJ).length ≤ 137438953472∧(aq (ca c s p) m).map aJ ++ [decide ((((s.chans.getD (((((c.procs.getD p av).puts).getD m a6).chan).toNat) []).length : Nat) : Int) < ((c.chans.getD (((((c.procs.getD p av).puts).getD m a6).chan).toNat) aX).cap))].map aJ = (aq (ca c s p) (m + 1)).map aJ)∧TT 1 (W6 ((m + 1 : Nat) : Int)∧TT 1 (AG (lQ c s p i) m (m + 1)))))))))) (TT 3 (IX (p : Int) c.procs.length∧TT 4 (IX (p : Int) s.procs.length∧TT 3 (CC (Kr (c.procs.getD p av) (s.procs.getD p a7) (aq (b9 c s p) i) (aq (ca c s p) m))∧TT 2 (((aU (c.procs.getD p av) (s.procs.getD p a7) (aq (b9 c s p) i) (aq (ca c s p) m)).fires) = ((ab c s p).fires)∧(((aU (c.procs.getD p av) (s.procs.getD p a7) (aq (b9 c s p) i) (aq (ca c s p) m)).s).regs).map (ah .i64) = (((ab c s p).s).regs).map (ah .i64)∧(((aU (c.procs.getD p av) (s.procs.getD p a7) (aq (b9 c s p) i) (aq (ca c s p) m)).s).mems).map af = (((ab c s p).s).mems).map af∧((aU (c.procs.getD p av) (s.procs.getD p a7) (aq (b9 c s p) i) (aq (ca c s p) m)).pops).map aJ = ((ab c s p).pops).map aJ∧((aU (c.procs.getD p av) (s.procs.getD p a7) (aq (b9 c s p) i) (aq (ca c s p) m)).puts).map bp = ((ab c s p).puts).map bp∧True))))))))))))))) (.gs 3 7 68 2 bp aK <| .l (lP c s p) 0 (fun i => .b 24 (.b 35 (.w 10 [(2,.box 68 2 bp aK [(⟨true,((s.chans.getD (((((c.procs.getD p av).takes).getD i bo).chan).toNat) []).getD 0 0)⟩ : Hd)]),(3,.box 68 2 bp aK (aq (b9 c s p) (i + 1)))] <| .w 11 [(0,.val (i6 ((i + 1 : Nat) : Int)))] <| .e) (.w 10 [(2,.box 68 2 bp aK [(⟨false,0⟩ : Hd)]),(3,.box 68 2 bp aK (aq (b9 c s p) (i + 1)))] <| .w 11 [(0,.val (i6 ((i + 1 : Nat) : Int)))] <| .e)) (.gs 12 8 4 1 aJ false <| .l (lQ c s p i) 0 (fun m => .b 53 (.s 16 (((c.chans.getD (((((c.procs.getD p av).puts).getD m a6).chan).toNat) aX).dst) = (-1)) (.w 16 [(4,.val (dB true)),(16,.box 4 1 aJ false [true]),(17,.box 4 1 aJ false (aq (ca c s p) (m + 1)))] <| .w 17 [(0,.val (i6 ((m + 1 : Nat) : Int)))] <| .e) (.w 16 [(4,.val (dB false)),(16,.box 4 1 aJ false [decide ((((s.chans.getD (((((c.procs.getD p av).puts).getD m a6).chan).toNat) []).length : Nat) : Int) < ((c.chans.getD (((((c.procs.getD p av).puts).getD m a6).chan).toNat) aX).cap))]),(17,.box 4 1 aJ false (aq (ca c s p) (m + 1)))] <| .w 17 [(0,.val (i6 ((m + 1 : Nat) : Int)))] <| .e)) (.f 18 3 <| .f 18 4 <| .w 18 [(12,(Kr (c.procs.getD p av) (s.procs.getD p a7) (aq (b9 c s p) i) (aq (ca c s p) m)).O)] <| .e))))) Tryz.func52 rfl rfl rfl (by kernel_rfl) ?_
 refine tt ⟨ix,tt ⟨rfl,(by omega),?_⟩⟩
 intro i hinv
 have hi := hinv
 refine tt (cd (fun hc24 => ?_) (fun hc24 => ?_))
 · refine ⟨ix,?_⟩
   have htk : 0 ≤ ((c.procs.getD p av).takes.getD i bo).chan∧((c.procs.getD p av).takes.getD i bo).chan < c.chans.length := ⟨(hc.tk p hp i (show i < (c.procs.getD p av).takes.length by omega)).1,(hc.tk p hp i (show i < (c.procs.getD p av).takes.length by omega)).2.1⟩
   refine tt ⟨ix,tt (cd (fun hc35 => ?_) (fun hc35 => ?_))⟩
   · refine tt ⟨ix,tt ⟨⟨⟨rfl,rfl,oK⟩,oK⟩,⟨(bz (by omega) (by first | exact (if_pos (show 0 < (s.chans.getD ((c.procs.getD p av).takes.getD i bo).chan.toNat []).length by omega)).symm | exact (if_neg (show ¬0 < (s.chans.getD ((c.procs.getD p av).takes.getD i bo).chan.toNat []).length by omega)).symm)),tt ⟨w6,tt ⟨(i + 1),rfl,(?_ : (i + 1) ≤ (c.procs.getD p av).takes.length),(?_ : (c.procs.getD p av).takes.length - (i + 1) < (c.procs.getD p av).takes.length - i)⟩⟩⟩⟩⟩
     · omega
     · omega
   · refine tt ⟨⟨⟨rfl,rfl,oK⟩,oK⟩,⟨(bz (by omega) (by first | exact (if_pos (show 0 < (s.chans.getD ((c.procs.getD p av).takes.getD i bo).chan.toNat []).length by omega)).symm | exact (if_neg (show ¬0 < (s.chans.getD ((c.procs.getD p av).takes.getD i bo).chan.toNat []).length by omega)).symm)),tt ⟨w6,tt ⟨(i + 1),rfl,(?_ : (i + 1) ≤ (c.procs.getD p av).takes.length),(?_ : (c.procs.getD p av).takes.length - (i + 1) < (c.procs.getD p av).takes.length - i)⟩⟩⟩⟩
     · omega
     · omega
 · refine tt ⟨ix,tt ⟨rfl,(by omega),?_⟩⟩
   intro m hinv
   have hm := hinv
   refine tt (cd (fun hc53 => ?_) (fun hc53 => ?_))
   · refine ⟨ix,?_⟩
     have hpt : 0 ≤ ((c.procs.getD p av).puts.getD m a6).chan∧((c.procs.getD p av).puts.getD m a6).chan < c.chans.length := ⟨(hc.pt p hp m (show m < (c.procs.getD p av).puts.length by omega)).1,(hc.pt p hp m (show m < (c.procs.getD p av).puts.length by omega)).2.1⟩
     refine tt ⟨ix,tt ⟨fun hs0 => ?_,fun hs0 => ?_⟩⟩
     · refine tt ⟨(vT hs0),tt ⟨⟨⟨rfl,oK⟩,oK⟩,⟨(bz (by omega) (by first | exact (wI hs0).symm | exact (lO hs0).symm | exact (lO hs1).symm)),tt ⟨w6,tt ⟨(m + 1),rfl,(?_ : (m + 1) ≤ (c.procs.getD p av).puts.length),(?_ : (c.procs.getD p av).puts.length - (m + 1) < (c.procs.getD p av).puts.length - m)⟩⟩⟩⟩⟩
       · omega
       · omega
     · refine tt ⟨(vF hs0),tt ⟨ix,tt ⟨⟨⟨rfl,oK⟩,oK⟩,⟨(bz (by omega) (by first | exact (wI hs0).symm | exact (lO hs0).symm | exact (lO hs1).symm)),tt ⟨w6,tt ⟨(m + 1),rfl,(?_ : (m + 1) ≤ (c.procs.getD p av).puts.length),(?_ : (c.procs.getD p av).puts.length - (m + 1) < (c.procs.getD p av).puts.length - m)⟩⟩⟩⟩⟩⟩
       · omega
       · omega
   · have hie : i = (c.procs.getD p av).takes.length := by omega
     have hme : m = (c.procs.getD p av).puts.length := by omega
     refine tt ⟨ix,tt ⟨ix,tt ⟨(EB (c.procs.getD p av) (s.procs.getD p a7) (aq (b9 c s p) i) (aq (ca c s p) m) hpk (hs.pv p hp) (by rw [hie]; exact pI hc hs hp) (by rw [aO]; omega)),tt ⟨?_,(congrArg _ (?_ : (((aU (c.procs.getD p av) (s.procs.getD p a7) (aq (b9 c s p) i) (aq (ca c s p) m)).s).regs) = (((ab c s p).s).regs))),(congrArg _ (?_ : (((aU (c.procs.getD p av) (s.procs.getD p a7) (aq (b9 c s p) i) (aq (ca c s p) m)).s).mems) = (((ab c s p).s).mems))),(congrArg _ (?_ : ((aU (c.procs.getD p av) (s.procs.getD p a7) (aq (b9 c s p) i) (aq (ca c s p) m)).pops) = ((ab c s p).pops))),(congrArg _ (?_ : ((aU (c.procs.getD p av) (s.procs.getD p a7) (aq (b9 c s p) i) (aq (ca c s p) m)).puts) = ((ab c s p).puts))),oK⟩⟩⟩⟩
     all_goals (all_goals (rw [hie,hme]; rfl))
end Go.Proofs.YtifoecfajmnjjaaGreat
