/-
  Package network: valid states, starts, what a process does.
-/
import Derived.Test.YtifoecfajmnjjaaGreatQNeE
namespace Go.Proofs.YtifoecfajmnjjaaGreat
open Go.RowKit
set_option linter.unusedVariables false
set_option linter.unusedSimpArgs false
abbrev ni (c : Ci) : List D := [(dL 6 eY av c.procs),(dL 5 iM be c.chans)]
abbrev uv (s : Ns) : List D := [(dL 2 bl a7 s.procs),(dL 1 af [] s.chans)]
set_option maxRecDepth 100000
abbrev Al (c : Ci) (s : Ns) : Ct := ⟨14,[(.agg (ni c)),(.agg (uv s))],false,(dB (a4 c s))⟩
abbrev mq (c : Ci) (s : Ns) : Lp (Nat) := gJ [2,3,27,28,29] 2 (fun (i : Nat) => ⟨[(2,(.ptr 0 0 0 0)),(3,(.ptr 1 0 0 0)),(27,(dL 6 eY av c.procs)),(28,(i6 (c.procs.length : Int))),(29,(i6 (i : Int)))],[(.var 31 (ni c)),(.var 36 (uv s))]⟩) (fun (i : Nat) => i ≤ c.procs.length∧∀ z,z < i → br (ay c z) (yG s z) = true) (fun (i : Nat) => c.procs.length - i)
abbrev hT (c : Ci) (s : Ns) : Lp (Nat) := gJ [3,44,45,46] 2 (fun (n : Nat) => ⟨[(3,(.ptr 1 0 0 0)),(44,(dL 5 iM be c.chans)),(45,(i6 (c.chans.length : Int))),(46,(i6 (n : Int)))],[(.var 31 (ni c)),(.var 36 (uv s))]⟩) (fun (n : Nat) => n ≤ c.chans.length∧∀ z,z < n → gL c s z = true) (fun (n : Nat) => c.chans.length - n)
theorem hU (c : Ci) (s : Ns) (hc : bR c) (hsm : kO s 9223372036854775807) : CC (Al c s) := by
 have hnl := hc.nl
 have hcl := hc.cl
 refine ak.vc (V := TT 3 (CS ((s.procs.length : Int) = (c.procs.length : Int)) (TT 7 ((True∧(!decide ((s.procs.length : Int) = (c.procs.length : Int))) = false)∧TT 8 (CN ((s.chans.length : Int) = (c.chans.length : Int)) (TT 2 (false = (a4 c s)∧True)) (TT 4 (GO (mq c s) 0 (∀ i,(mq c s).inv i → TT 1 (CD ((i : Int) < (c.procs.length : Int)) (TT 1 (IX (i : Int) c.procs.length∧TT 8 (IX (i : Int) s.procs.length∧TT 1 (CC (IZ (c.procs.getD i av) (s.procs.getD i a7))∧TT 1 (CB (!(br (c.procs.getD i av) (s.procs.getD i a7))) (TT 2 (false = (a4 c s)∧True)) (W6 ((i + 1 : Nat) : Int)∧TT 1 (AG (mq c s) i (i + 1)))))))) (TT 4 (GO (hT c s) 0 (∀ n,(hT c s).inv n → TT 1 (CD ((n : Int) < (c.chans.length : Int)) (TT 1 (IX (n : Int) c.chans.length∧TT 4 (CS (((c.chans.getD n be).frm) ≥ 0) (TT 3 ((True∧(decide (((c.chans.getD n be).frm) ≥ 0)) = true)∧TT 5 (CS ((cg (s.chans.getD n []) ((c.chans.getD n be).w)) = true) (CS (((c.chans.getD n be).dst) ≥ 0) (TT 3 (IX (n : Int) s.chans.length∧TT 3 (CC (Bw (s.chans.getD n []) ((c.chans.getD n be).w))∧TT 1 ((True∧(!(cg (s.chans.getD n []) ((c.chans.getD n be).w))) = false)∧TT 1 ((True∧(decide (((c.chans.getD n be).dst) ≥ 0)) = true)∧TT 3 (IX (n : Int) s.chans.length∧TT 7 (CD ((((s.chans.getD n []).length : Nat) : Int) > ((c.chans.getD n be).cap)) (TT 2 (false = (a4 c s)∧True)) (W6 ((n + 1 : Nat) : Int)∧TT 1 (AG (hT c s) n (n + 1)))))))))) (TT 3 (IX (n : Int) s.chans.length∧TT 3 (CC (Bw (s.chans.getD n []) ((c.chans.getD n be).w))∧TT 1 ((True∧(!(cg (s.chans.getD n []) ((c.chans.getD n be).w))) = false)∧TT 1 ((True∧(decide (((c.chans.getD n be).dst) ≥ 0)) = false)∧TT 2 (W6 ((n + 1 : Nat) : Int)∧TT 1 (AG (hT c s) n (n + 1))))))))) (TT 3 (IX (n : Int) s.chans.length∧TT 3 (CC (Bw (s.chans.getD n []) ((c.chans.getD n be).w))∧TT 1 ((True∧(!(cg (s.chans.getD n []) ((c.chans.getD n be).w))) = true)∧TT 3 (false = (a4 c s)∧True)))))))) (TT 3 ((True∧(decide (((c.chans.getD n be).frm) ≥ 0)) = false)∧TT 5 (CS ((cg (s.chans.getD n []) ((c.chans.getD n be).w)) = true) (TT 3 (IX (n : Int) s.chans.length∧TT 3 (CC (Bw (s.chans.getD n []) ((c.chans.getD n be).w))∧TT 1 ((True∧(!(cg (s.chans.getD n []) ((c.chans.getD n be).w))) = false)∧TT 4 (W6 ((n + 1 : Nat) : Int)∧TT 1 (AG (hT c s) n (n + 1))))))) (TT 3 (IX (n : Int) s.chans.length∧TT 3 (CC (Bw (s.chans.getD n []) ((c.chans.getD n be).w))∧TT 1 ((True∧(!(cg (s.chans.getD n []) ((c.chans.getD n be).w))) = true)∧TT 3 (false = (a4 c s)∧True))))))))))) (TT 2 (true = (a4 c s)∧True))))))))))))) (TT 7 ((True∧(!decide ((s.procs.length : Int) = (c.procs.length : Int))) = true)∧TT 10 (false = (a4 c s)∧True))))) (.s 1 ((s.procs.length : Int) = (c.procs.length : Int)) (.w 1 [(7,.val (dB false))] <| .b 25 (.e) (.l (mq c s) 0 (fun i => .b 30 (.w 6 [(6,(IZ (c.procs.getD i av) (s.procs.getD i a7)).O)] <| .b 41 (.e) (.w 8 [(0,.val (i6 ((i + 1 : Nat) : Int)))] <| .e)) (.l (hT c s) 0 (fun n => .b 47 (.s 12 (((c.chans.getD n be).frm) ≥ 0) (.w 12 [(3,.val (dB true))] <| .s 13 ((cg (s.chans.getD n []) ((c.chans.getD n be).w)) = true) (.s 13 (((c.chans.getD n be).dst) ≥ 0) (.w 13 [(7,(Bw (s.chans.getD n []) ((c.chans.getD n be).w)).O),(9,.val (dB false)),(11,.val (dB true))] <| .b 81 (.e) (.w 15 [(0,.val (i6 ((n + 1 : Nat) : Int)))] <| .e)) (.w 13 [(7,(Bw (s.chans.getD n []) ((c.chans.getD n be).w)).O),(9,.val (dB false)),(11,.val (dB false))] <| .w 15 [(0,.val (i6 ((n + 1 : Nat) : Int)))] <| .e)) (.w 13 [(7,(Bw (s.chans.getD n []) ((c.chans.getD n be).w)).O),(9,.val (dB true))] <| .e)) (.w 12 [(3,.val (dB false))] <| .s 13 ((cg (s.chans.getD n []) ((c.chans.getD n be).w)) = true) (.w 13 [(7,(Bw (s.chans.getD n []) ((c.chans.getD n be).w)).O),(9,.val (dB false))] <| .w 15 [(0,.val (i6 ((n + 1 : Nat) : Int)))] <| .e) (.w 13 [(7,(Bw (s.chans.getD n []) ((c.chans.getD n be).w)).O),(9,.val (dB true))] <| .e))) (.e)))))) (.w 1 [(7,.val (dB true))] <| .e)) Tryz.func14 rfl rfl rfl (by kernel_rfl) ?_
 refine tt ⟨fun hs0 => ?_,fun hs0 => ?_⟩
 · refine tt ⟨(nF hs0),tt (cn (fun hc25 => ?_) (fun hc25 => ?_))⟩
   · refine tt ⟨?_,oK⟩
     first | exact (fU (by omega)).symm | exact (fV (by omega)).symm | exact (fW (i := i) (by omega) (by simpa using hc41)).symm | exact (cu (n := n) (by omega) (dm (by first | exact hs2 | exact hs4))).symm | exact (cu (n := n) (by omega) (dn (by show 0 ≤ (c.chans.getD n be).frm; omega) (by show 0 ≤ (c.chans.getD n be).dst; omega) (by show ¬((s.chans.getD n []).length : Int) ≤ (c.chans.getD n be).cap; omega))).symm | exact (fX (by omega) (by omega) (fun z hz => h3 z (by omega)) (fun z hz => h4 z (by omega))).symm
   · refine tt ⟨rfl,⟨by omega,fun z hz => by omega⟩,?_⟩
     intro i hinv
     obtain ⟨hi,h3⟩ := hinv
     refine tt (cd (fun hc30 => ?_) (fun hc30 => ?_))
     · refine tt ⟨ix,?_⟩
       have hpk := hc.pr i (by omega)
       refine tt ⟨ix,tt ⟨(Bn (c.procs.getD i av) (s.procs.getD i a7) hpk),tt ⟨fun hc41 => ?_,fun hc41 => ?_⟩⟩⟩
       · refine tt ⟨?_,oK⟩
         first | exact (fU (by omega)).symm | exact (fV (by omega)).symm | exact (fW (i := i) (by omega) (by simpa using hc41)).symm | exact (cu (n := n) (by omega) (dm (by first | exact hs2 | exact hs4))).symm | exact (cu (n := n) (by omega) (dn (by show 0 ≤ (c.chans.getD n be).frm; omega) (by show 0 ≤ (c.chans.getD n be).dst; omega) (by show ¬((s.chans.getD n []).length : Int) ≤ (c.chans.getD n be).cap; omega))).symm | exact (fX (by omega) (by omega) (fun z hz => h3 z (by omega)) (fun z hz => h4 z (by omega))).symm
       · refine ⟨w6,tt ⟨(i + 1),rfl,?_,(?_ : c.procs.length - (i + 1) < c.procs.length - i)⟩⟩
         · exact ⟨by omega,ce h3 (by simpa using hc41)⟩
         · omega
     · refine tt ⟨rfl,⟨by omega,fun z hz => by omega⟩,?_⟩
       intro n hinv
       obtain ⟨hn,h4⟩ := hinv
       refine tt (cd (fun hc47 => ?_) (fun hc47 => ?_))
       · refine tt ⟨ix,tt ?_⟩
         have hw : 1 ≤ (c.chans.getD n be).w∧(c.chans.getD n be).w ≤ 8 := aW.1 (hc.cw n (by omega))
         have hlw : (s.chans.getD n []).length ≤ 9223372036854775807 := hsm n
         refine ⟨fun hs1 => ?_,fun hs1 => ?_⟩
         · refine tt ⟨(vT hs1),tt ⟨fun hs2 => ?_,fun hs2 => ?_⟩⟩
           · refine ⟨fun hs3 => ?_,fun hs3 => ?_⟩
             · refine tt ⟨ix,tt ⟨(hJ (s.chans.getD n []) ((c.chans.getD n be).w) (by omega) (by omega) hlw),tt ⟨(mF hs2),tt ⟨(vT hs3),tt ⟨ix,tt (cd (fun hc81 => ?_) (fun hc81 => ?_))⟩⟩⟩⟩⟩
               · refine tt ⟨?_,oK⟩
                 first | exact (fU (by omega)).symm | exact (fV (by omega)).symm | exact (fW (i := i) (by omega) (by simpa using hc41)).symm | exact (cu (n := n) (by omega) (dm (by first | exact hs2 | exact hs4))).symm | exact (cu (n := n) (by omega) (dn (by show 0 ≤ (c.chans.getD n be).frm; omega) (by show 0 ≤ (c.chans.getD n be).dst; omega) (by show ¬((s.chans.getD n []).length : Int) ≤ (c.chans.getD n be).cap; omega))).symm | exact (fX (by omega) (by omega) (fun z hz => h3 z (by omega)) (fun z hz => h4 z (by omega))).symm
               · refine ⟨w6,tt ⟨(n + 1),rfl,?_,(?_ : c.chans.length - (n + 1) < c.chans.length - n)⟩⟩
                 · refine ⟨by omega,ce h4 ?_⟩
                   first | exact qA (by first | exact hs2 | exact hs4) (by show ¬0 ≤ (c.chans.getD n be).frm; omega) | exact qB (by first | exact hs2 | exact hs4) (by show ¬0 ≤ (c.chans.getD n be).dst; omega) | exact qC (by first | exact hs2 | exact hs4) (by show ((s.chans.getD n []).length : Int) ≤ (c.chans.getD n be).cap; omega)
                 · omega
             · refine tt ⟨ix,tt ⟨(hJ (s.chans.getD n []) ((c.chans.getD n be).w) (by omega) (by omega) hlw),tt ⟨(mF hs2),tt ⟨(vF hs3),tt ⟨w6,tt ⟨(n + 1),rfl,?_,(?_ : c.chans.length - (n + 1) < c.chans.length - n)⟩⟩⟩⟩⟩⟩
               · refine ⟨by omega,ce h4 ?_⟩
                 first | exact qA (by first | exact hs2 | exact hs4) (by show ¬0 ≤ (c.chans.getD n be).frm; omega) | exact qB (by first | exact hs2 | exact hs4) (by show ¬0 ≤ (c.chans.getD n be).dst; omega) | exact qC (by first | exact hs2 | exact hs4) (by show ((s.chans.getD n []).length : Int) ≤ (c.chans.getD n be).cap; omega)
               · omega
           · refine tt ⟨ix,tt ⟨(hJ (s.chans.getD n []) ((c.chans.getD n be).w) (by omega) (by omega) hlw),tt ⟨(mT hs2),tt ⟨?_,oK⟩⟩⟩⟩
             first | exact (fU (by omega)).symm | exact (fV (by omega)).symm | exact (fW (i := i) (by omega) (by simpa using hc41)).symm | exact (cu (n := n) (by omega) (dm (by first | exact hs2 | exact hs4))).symm | exact (cu (n := n) (by omega) (dn (by show 0 ≤ (c.chans.getD n be).frm; omega) (by show 0 ≤ (c.chans.getD n be).dst; omega) (by show ¬((s.chans.getD n []).length : Int) ≤ (c.chans.getD n be).cap; omega))).symm | exact (fX (by omega) (by omega) (fun z hz => h3 z (by omega)) (fun z hz => h4 z (by omega))).symm
         · refine tt ⟨(vF hs1),tt ⟨fun hs4 => ?_,fun hs4 => ?_⟩⟩
           · refine tt ⟨ix,tt ⟨(hJ (s.chans.getD n []) ((c.chans.getD n be).w) (by omega) (by omega) hlw),tt ⟨(mF hs4),tt ⟨w6,tt ⟨(n + 1),rfl,?_,(?_ : c.chans.length - (n + 1) < c.chans.length - n)⟩⟩⟩⟩⟩
             · refine ⟨by omega,ce h4 ?_⟩
               first | exact qA (by first | exact hs2 | exact hs4) (by show ¬0 ≤ (c.chans.getD n be).frm; omega) | exact qB (by first | exact hs2 | exact hs4) (by show ¬0 ≤ (c.chans.getD n be).dst; omega) | exact qC (by first | exact hs2 | exact hs4) (by show ((s.chans.getD n []).length : Int) ≤ (c.chans.getD n be).cap; omega)
             · omega
           · refine tt ⟨ix,tt ⟨(hJ (s.chans.getD n []) ((c.chans.getD n be).w) (by omega) (by omega) hlw),tt ⟨(mT hs4),tt ⟨?_,oK⟩⟩⟩⟩
             first | exact (fU (by omega)).symm | exact (fV (by omega)).symm | exact (fW (i := i) (by omega) (by simpa using hc41)).symm | exact (cu (n := n) (by omega) (dm (by first | exact hs2 | exact hs4))).symm | exact (cu (n := n) (by omega) (dn (by show 0 ≤ (c.chans.getD n be).frm; omega) (by show 0 ≤ (c.chans.getD n be).dst; omega) (by show ¬((s.chans.getD n []).length : Int) ≤ (c.chans.getD n be).cap; omega))).symm | exact (fX (by omega) (by omega) (fun z hz => h3 z (by omega)) (fun z hz => h4 z (by omega))).symm
       · refine tt ⟨?_,oK⟩
         first | exact (fU (by omega)).symm | exact (fV (by omega)).symm | exact (fW (i := i) (by omega) (by simpa using hc41)).symm | exact (cu (n := n) (by omega) (dm (by first | exact hs2 | exact hs4))).symm | exact (cu (n := n) (by omega) (dn (by show 0 ≤ (c.chans.getD n be).frm; omega) (by show 0 ≤ (c.chans.getD n be).dst; omega) (by show ¬((s.chans.getD n []).length : Int) ≤ (c.chans.getD n be).cap; omega))).symm | exact (fX (by omega) (by omega) (fun z hz => h3 z (by omega)) (fun z hz => h4 z (by omega))).symm
 · refine tt ⟨(nT hs0),tt ⟨?_,oK⟩⟩
   first | exact (fU (by omega)).symm | exact (fV (by omega)).symm | exact (fW (i := i) (by omega) (by simpa using hc41)).symm | exact (cu (n := n) (by omega) (dm (by first | exact hs2 | exact hs4))).symm | exact (cu (n := n) (by omega) (dn (by show 0 ≤ (c.chans.getD n be).frm; omega) (by show 0 ≤ (c.chans.getD n be).dst; omega) (by show ¬((s.chans.getD n []).length : Int) ≤ (c.chans.getD n be).cap; omega))).symm | exact (fX (by omega) (by omega) (fun z hz => h3 z (by omega)) (fun z hz => h4 z (by omega))).symm
abbrev I7 (c : Ci) : Ct := ⟨26,[(.agg (ni c))],true,(.agg [(dL 2 bl a7 ((az c).procs)),(dL 1 af [] ((az c).chans))])⟩
abbrev mr (c : Ci) : Lp (Nat) := gJ [2,3,12,13,14] 5 (fun (i : Nat) => ⟨[(2,(.ptr 1 0 0 0)),(3,(.ptr 3 0 0 0)),(12,(dL 6 eY av c.procs)),(13,(i6 (c.procs.length : Int))),(14,(i6 (i : Int)))],[(.var 31 (ni c)),(.var 36 [.nils,.nils]),(.arr 43 1 af [] (List.replicate c.chans.length ([] : List Int))),(.var 36 [(.own 4),(.own 2)]),(.arr 45 2 bl a7 (an (fun i => aX (ay c i)) i))]⟩) (fun (i : Nat) => i ≤ c.procs.length) (fun (i : Nat) => c.procs.length - i)
theorem Bx (c : Ci) (hc : bR c) : CC (I7 c) := by
 have hnl := hc.nl
 have hcl := hc.cl
 refine ak.vc (V := TT 5 ((((0 : Int) ≤ (c.chans.length : Int)∧(c.chans.length : Int) ≤ (c.chans.length : Int)∧(c.chans.length : Int) ≤ 137438953472)∧(List.replicate c.chans.length ([] : List Int)).length = c.chans.length∧∀ x ∈ (List.replicate c.chans.length ([] : List Int)),cG [.nils] (af x))∧TT 7 (GO (mr c) 0 (∀ i,(mr c).inv i → TT 1 (CD ((i : Int) < (c.procs.length : Int)) (IX (i : Int) c.procs.length∧TT 6 (CC (I0 (c.procs.getD i av))∧ap [[(LI ((aX (c.procs.getD i av)).regs)),(dL 1 af [] ((aX (c.procs.getD i av)).mems))]] ([(⟨(aX (c.procs.getD i av)).regs,(aX (c.procs.getD i av)).mems⟩ : Ps)].map bl)∧((an (fun i => aX (ay c i)) i).length + ([(⟨(aX (c.procs.getD i av)).regs,(aX (c.procs.getD i av)).mems⟩ : Ps)].map bl).length ≤ 137438953472∧(an (fun i => aX (ay c i)) i).map bl ++ [(⟨(aX (c.procs.getD i av)).regs,(aX (c.procs.getD i av)).mems⟩ : Ps)].map bl = (an (fun i => aX (ay c i)) (i + 1)).map bl)∧TT 2 (W6 ((i + 1 : Nat) : Int)∧TT 1 (AG (mr c) i (i + 1))))) (TT 3 ((an (fun i => aX (ay c i)) i).map bl = ((az c).procs).map bl∧(List.replicate c.chans.length ([] : List Int)).map af = ((az c).chans).map af∧True))))))) (.w 1 [(3,.box 43 1 af [] (List.replicate c.chans.length ([] : List Int)))] <| .g 2 3 0 45 2 bl a7 <| .l (mr c) 0 (fun i => .b 15 (.w 5 [(3,(I0 (c.procs.getD i av)).O),(4,.box 45 2 bl a7 [(⟨(aX (c.procs.getD i av)).regs,(aX (c.procs.getD i av)).mems⟩ : Ps)]),(5,.box 45 2 bl a7 (an (fun i => aX (ay c i)) (i + 1)))] <| .w 6 [(0,.val (i6 ((i + 1 : Nat) : Int)))] <| .e) (.e))) Tryz.func26 rfl rfl rfl (by kernel_rfl) ?_
 refine tt ⟨⟨by omega,by simp,fun x hx => by rw [List.eq_of_mem_replicate hx]; exact ⟨rfl,oK⟩⟩,tt ⟨rfl,(by omega),?_⟩⟩
 intro i hinv
 have hi := hinv
 refine tt (cd (fun hc15 => ?_) (fun hc15 => ?_))
 · refine ⟨ix,?_⟩
   have hpk := hc.pr i (by omega)
   refine tt ⟨(Bo (c.procs.getD i av) hpk),⟨⟨⟨rfl,rfl,oK⟩,oK⟩,⟨(gW (f := fun i => aX (ay c i)) (by omega)),tt ⟨w6,tt ⟨(i + 1),rfl,(?_ : (i + 1) ≤ c.procs.length),(?_ : c.procs.length - (i + 1) < c.procs.length - i)⟩⟩⟩⟩⟩
   · omega
   · omega
 · refine tt ⟨(congrArg _ (?_ : (an (fun i => aX (ay c i)) i) = ((az c).procs))),(congrArg _ (?_ : (List.replicate c.chans.length ([] : List Int)) = ((az c).chans))),oK⟩
   · rw [show i = c.procs.length by omega]; rfl
   · rfl
abbrev I8 (h : Ch) : Ct := ⟨83,[(.agg [(dS h.name),(i6 h.w),(i6 h.cap),(i6 h.frm),(i6 h.dst)])],false,(i6 h.frm)⟩
theorem Dy (h : Ch) : CC (I8 h) := by
 refine ak.vc (V := TT 6 (h.frm = h.frm∧True)) (.e) Tryz.func83 rfl rfl rfl (by kernel_rfl) ?_
 exact tt ⟨rfl,oK⟩
abbrev I9 (h : Ch) : Ct := ⟨86,[(.agg [(dS h.name),(i6 h.w),(i6 h.cap),(i6 h.frm),(i6 h.dst)])],false,(i6 h.dst)⟩
theorem Dz (h : Ch) : CC (I9 h) := by
 refine ak.vc (V := TT 6 (h.dst = h.dst∧True)) (.e) Tryz.func86 rfl rfl rfl (by kernel_rfl) ?_
 exact tt ⟨rfl,oK⟩
abbrev DA (c : Ci) (n : Int) : Ct := ⟨82,[(.agg (ni c)),(i6 n),(.fn (.func 83) [] [])],false,(dB (fL (·.frm) c n))⟩
theorem xk (c : Ci) (n : Int) (hc : bR c) : CC (DA c n) := by
 have hnl := hc.nl
 have hcl := hc.cl
 refine ak.vc (V := TT 2 (CS (n ≥ 0) (CS (n < (c.chans.length : Int)) (TT 2 ((True∧(decide (n ≥ 0)) = true)∧TT 6 ((True∧(decide (n < (c.chans.length : Int))) = true)∧TT 4 (IX n c.chans.length∧TT 1 (CC (I8 (c.chans.getD n.toNat be))∧TT 4 ((((c.chans.getD n.toNat be).frm) == (-1)) = (fL (·.frm) c n)∧True)))))) (TT 2 ((True∧(decide (n ≥ 0)) = true)∧TT 6 ((True∧(decide (n < (c.chans.length : Int))) = false)∧TT 11 (false = (fL (·.frm) c n)∧True))))) (TT 2 ((True∧(decide (n ≥ 0)) = false)∧TT 18 (false = (fL (·.frm) c n)∧True))))) (.s 1 (n ≥ 0) (.s 1 (n < (c.chans.length : Int)) (.w 1 [(2,.val (dB true)),(9,.val (dB true)),(16,(I8 (c.chans.getD n.toNat be)).O)] <| .e) (.w 1 [(2,.val (dB true)),(9,.val (dB false))] <| .e)) (.w 1 [(2,.val (dB false))] <| .e)) Tryz.func82 rfl rfl rfl (by kernel_rfl) ?_
 refine tt ⟨fun hs0 => ?_,fun hs0 => ?_⟩
 · refine ⟨fun hs1 => ?_,fun hs1 => ?_⟩
   · refine tt ⟨(vT hs0),tt ⟨(vT hs1),tt ⟨ix,tt ⟨(Dy (c.chans.getD n.toNat be)),tt ⟨?_,oK⟩⟩⟩⟩⟩
     first | exact (jz (by omega)).symm | exact (jA (by omega)).symm | exact (eX (by omega) (by omega)).symm | (rw [eX (by omega) (by omega)]; simp)
   · refine tt ⟨(vT hs0),tt ⟨(vF hs1),tt ⟨?_,oK⟩⟩⟩
     first | exact (jz (by omega)).symm | exact (jA (by omega)).symm | exact (eX (by omega) (by omega)).symm | (rw [eX (by omega) (by omega)]; simp)
 · refine tt ⟨(vF hs0),tt ⟨?_,oK⟩⟩
   first | exact (jz (by omega)).symm | exact (jA (by omega)).symm | exact (eX (by omega) (by omega)).symm | (rw [eX (by omega) (by omega)]; simp)
abbrev Gy (c : Ci) (n : Int) : Ct := ⟨82,[(.agg (ni c)),(i6 n),(.fn (.func 86) [] [])],false,(dB (fL (·.dst) c n))⟩
theorem DB (c : Ci) (n : Int) (hc : bR c) : CC (Gy c n) := by
 have hnl := hc.nl
 have hcl := hc.cl
 refine ak.vc (V := TT 2 (CS (n ≥ 0) (CS (n < (c.chans.length : Int)) (TT 2 ((True∧(decide (n ≥ 0)) = true)∧TT 6 ((True∧(decide (n < (c.chans.length : Int))) = true)∧TT 4 (IX n c.chans.length∧TT 1 (CC (I9 (c.chans.getD n.toNat be))∧TT 4 ((((c.chans.getD n.toNat be).dst) == (-1)) = (fL (·.dst) c n)∧True)))))) (TT 2 ((True∧(decide (n ≥ 0)) = true)∧TT 6 ((True∧(decide (n < (c.chans.length : Int))) = false)∧TT 11 (false = (fL (·.dst) c n)∧True))))) (TT 2 ((True∧(decide (n ≥ 0)) = false)∧TT 18 (false = (fL (·.dst) c n)∧True))))) (.s 1 (n ≥ 0) (.s 1 (n < (c.chans.length : Int)) (.w 1 [(2,.val (dB true)),(9,.val (dB true)),(16,(I9 (c.chans.getD n.toNat be)).O)] <| .e) (.w 1 [(2,.val (dB true)),(9,.val (dB false))] <| .e)) (.w 1 [(2,.val (dB false))] <| .e)) Tryz.func82 rfl rfl rfl (by kernel_rfl) ?_
 refine tt ⟨fun hs0 => ?_,fun hs0 => ?_⟩
 · refine ⟨fun hs1 => ?_,fun hs1 => ?_⟩
   · refine tt ⟨(vT hs0),tt ⟨(vT hs1),tt ⟨ix,tt ⟨(Dz (c.chans.getD n.toNat be)),tt ⟨?_,oK⟩⟩⟩⟩⟩
     first | exact (jz (by omega)).symm | exact (jA (by omega)).symm | exact (eX (by omega) (by omega)).symm | (rw [eX (by omega) (by omega)]; simp)
   · refine tt ⟨(vT hs0),tt ⟨(vF hs1),tt ⟨?_,oK⟩⟩⟩
     first | exact (jz (by omega)).symm | exact (jA (by omega)).symm | exact (eX (by omega) (by omega)).symm | (rw [eX (by omega) (by omega)]; simp)
 · refine tt ⟨(vF hs0),tt ⟨?_,oK⟩⟩
   first | exact (jz (by omega)).symm | exact (jA (by omega)).symm | exact (eX (by omega) (by omega)).symm | (rw [eX (by omega) (by omega)]; simp)
abbrev Gz (c : Ci) (s : Ns) (p : Nat) : Ct := ⟨52,[(.agg (ni c)),(.agg (uv s)),(i6 (p : Int))],true,(.agg [(dB ((ab c s p).fires)),(LI (((ab c s p).s).regs)),(dL 1 af [] (((ab c s p).s).mems)),(LB ((ab c s p).pops)),(dL 2 bj aG ((ab c s p).puts))])⟩
abbrev lC (c : Ci) (s : Ns) (p : Nat) : Lp (Nat) := gJ [2,3,4,6,7,8,21,22,23] 4 (fun (i : Nat) => ⟨[(2,(i6 (p : Int))),(3,(.ptr 0 0 0 0)),(4,(.ptr 1 0 0 0)),(6,(.ptr 2 0 0 0)),(7,(.own 3)),(8,.nils),(21,(dL 9 iK bq ((c.procs.getD p av).takes))),(22,(i6 ((((c.procs.getD p av).takes).length : Nat) : Int))),(23,(i6 (i : Int)))],[(.var 31 (ni c)),(.var 36 (uv s)),(.var 48 [(dB false),.nils,.nils,.nils,.nils]),(.arr 68 2 bj aG (an (b8 c s p) i))]⟩) (fun (i : Nat) => i ≤ (c.procs.getD p av).takes.length) (fun (i : Nat) => (c.procs.getD p av).takes.length - i)
abbrev lD (c : Ci) (s : Ns) (p : Nat) (i : Nat) : Lp (Nat) := gJ [2,3,4,6,7,8,50,51,52] 5 (fun (m : Nat) => ⟨[(2,(i6 (p : Int))),(3,(.ptr 0 0 0 0)),(4,(.ptr 1 0 0 0)),(6,(.ptr 2 0 0 0)),(7,(.own 3)),(8,(.own 4)),(50,(dL 16 fe a5 ((c.procs.getD p av).puts))),(51,(i6 ((((c.procs.getD p av).puts).length : Nat) : Int))),(52,(i6 (m : Int)))],[(.var 31 (ni c)),(.var 36 (uv s)),(.var 48 [(dB false),.nils,.nils,.nils,.nils]),(.arr 68 2 bj aG (an (b8 c s p) i)),(.arr 4 1 aL false (an (b9 c s p) m))]⟩) (fun (m : Nat) => m ≤ (c.procs.getD p av).puts.length) (fun (m : Nat) => (c.procs.getD p av).puts.length - m)
theorem sO (c : Ci) (s : Ns) (p : Nat) (hc : bR c) (hs : cT c s) (hp : p < c.procs.length) : CC (Gz c s p) := by
 have hnl := hc.nl
 have hcl := hc.cl
 have hpk : fS (c.procs.getD p av) := hc.pr p hp
 have hl1 := hs.pl
 have hl2 := hs.cl
 have ht1 : (c.procs.getD p av).takes.length ≤ 100 := hpk.tl
 have ht2 : (c.procs.getD p av).puts.length ≤ 100 := hpk.pl
 refine ak.vc (V := TT 8 (IX (p : Int) c.procs.length∧TT 4 (GO (lC c s p) 0 (∀ i,(lC c s p).inv i → TT 1 (CD ((i : Int) < ((((c.procs.getD p av).takes).length : Nat) : Int)) (IX (i : Int) (((c.procs.getD p av).takes).length)∧TT 8 (IX ((((c.procs.getD p av).takes).getD i bq).chan) s.chans.length∧TT 5 (CD ((((s.chans.getD (((((c.procs.getD p av).takes).getD i bq).chan).toNat) []).length : Nat) : Int) > 0) (TT 1 (IX 0 ((s.chans.getD (((((c.procs.getD p av).takes).getD i bq).chan).toNat) []).length)∧TT 5 (ap [[(dB true),(i6 ((s.chans.getD (((((c.procs.getD p av).takes).getD i bq).chan).toNat) []).getD 0 0))]] ([(⟨true,((s.chans.getD (((((c.procs.getD p av).takes).getD i bq).chan).toNat) []).getD 0 0)⟩ : Hd)].map bj)∧((an (b8 c s p) i).length + ([(⟨true,((s.chans.getD (((((c.procs.getD p av).takes).getD i bq).chan).toNat) []).getD 0 0)⟩ : Hd)].map bj).length ≤ 137438953472∧(an (b8 c s p) i).map bj ++ [(⟨true,((s.chans.getD (((((c.procs.getD p av).takes).getD i bq).chan).toNat) []).getD 0 0)⟩ : Hd)].map bj = (an (b8 c s p) (i + 1)).map bj)∧TT 1 (W6 ((i + 1 : Nat) : Int)∧TT 1 (AG (lC c s p) i (i + 1)))))) (TT 2 (ap [[(dB false),(i6 0)]] ([(⟨false,0⟩ : Hd)].map bj)∧((an (b8 c s p) i).length + ([(⟨false,0⟩ : Hd)].map bj).length ≤ 137438953472∧(an (b8 c s p) i).map bj ++ [(⟨false,0⟩ : Hd)].map bj = (an (b8 c s p) (i + 1)).map bj)∧TT 1 (W6 ((i + 1 : Nat) : Int)∧TT 1 (AG (lC c s p) i (i + 1)))))))) (TT 3 (IX (p : Int) c.procs.length∧TT 4 (GO (lD c s p i) 0 (∀ m,(lD c s p i).inv m → TT 1 (CD ((m : Int) < ((((c.procs.getD p av).puts).length : Nat) : Int)) (IX (m : Int) (((c.procs.getD p av).puts).length)∧TT 7 (IX ((((c.procs.getD p av).puts).getD m a5).chan) c.chans.length∧TT 3 (CS (((c.chans.getD (((((c.procs.getD p av).puts).getD m a5).chan).toNat) be).dst) = (-1)) (TT 4 ((True∧(decide (((c.chans.getD (((((c.procs.getD p av).puts).getD m a5).chan).toNat) be).dst) = (-1))) = true)∧TT 1 (ap [[(dB true)]] ([true].map aL)∧((an (b9 c s p) m).length + ([true].map aL).length ≤ 137438953472∧(an (b9 c s p) m).map aL ++ [true].map aL = (an (b9 c s p) (m + 1)).map aL)∧TT 1 (W6 ((m + 1 : Nat) : Int)∧TT 1 (AG (lD c s p i) m (m + 1)))))) (TT 4 ((True∧(decide (((c.chans.getD (((((c.procs.getD p av).puts).getD m a5).chan).toNat) be).dst) = (-1))) = false)∧TT 4 (IX ((((c.procs.getD p av).puts).getD m a5).chan) s.chans.length∧TT 6 (ap [[(dB (decide ((((s.chans.getD (((((c.procs.getD p av).puts).getD m a5).chan).toNat) []).length : Nat) : Int) < ((c.chans.getD (((((c.procs.getD p av).puts).getD m a5).chan).toNat) be).cap))))]] ([decide ((((s.chans.getD (((((c.procs.getD p av).puts).getD m a5).chan).toNat) []).length : Nat) : Int) < ((c.chans.getD (((((c.procs.getD p av).puts).getD m a5).chan).toNat) be).cap))].map aL)∧((an (b9 c s p) m).length + ([decide ((((s.chans.getD (((((c.procs.getD p av).puts).getD m a5).chan).toNat) []).length : Nat) : Int) < ((c.chans.getD (((((c.procs.getD p av).puts).getD m a5).chan).toNat) be).cap))].map aL).length ≤ 137438953472∧(an (b9 c s p) m).map aL ++ [decide ((((s.chans.getD (((((c.procs.getD p av).puts).getD m a5).chan).toNat) []).length : Nat) : Int) < ((c.chans.getD (((((c.procs.getD p av).puts).getD m a5).chan).toNat) be).cap))].map aL = (an (b9 c s p) (m + 1)).map aL)∧TT 1 (W6 ((m + 1 : Nat) : Int)∧TT 1 (AG (lD c s p i) m (m + 1)))))))))) (TT 3 (IX (p : Int) c.procs.length∧TT 4 (IX (p : Int) s.procs.length∧TT 3 (CC (I1 (c.procs.getD p av) (s.procs.getD p a7) (an (b8 c s p) i) (an (b9 c s p) m))∧TT 2 (((aV (c.procs.getD p av) (s.procs.getD p a7) (an (b8 c s p) i) (an (b9 c s p) m)).fires) = ((ab c s p).fires)∧(((aV (c.procs.getD p av) (s.procs.getD p a7) (an (b8 c s p) i) (an (b9 c s p) m)).s).regs).map (ah .i64) = (((ab c s p).s).regs).map (ah .i64)∧(((aV (c.procs.getD p av) (s.procs.getD p a7) (an (b8 c s p) i) (an (b9 c s p) m)).s).mems).map af = (((ab c s p).s).mems).map af∧((aV (c.procs.getD p av) (s.procs.getD p a7) (an (b8 c s p) i) (an (b9 c s p) m)).pops).map aL = ((ab c s p).pops).map aL∧((aV (c.procs.getD p av) (s.procs.getD p a7) (an (b8 c s p) i) (an (b9 c s p) m)).puts).map bj = ((ab c s p).puts).map bj∧True))))))))))))))) (.gs 3 7 68 2 bj aG <| .l (lC c s p) 0 (fun i => .b 24 (.b 35 (.w 10 [(2,.box 68 2 bj aG [(⟨true,((s.chans.getD (((((c.procs.getD p av).takes).getD i bq).chan).toNat) []).getD 0 0)⟩ : Hd)]),(3,.box 68 2 bj aG (an (b8 c s p) (i + 1)))] <| .w 11 [(0,.val (i6 ((i + 1 : Nat) : Int)))] <| .e) (.w 10 [(2,.box 68 2 bj aG [(⟨false,0⟩ : Hd)]),(3,.box 68 2 bj aG (an (b8 c s p) (i + 1)))] <| .w 11 [(0,.val (i6 ((i + 1 : Nat) : Int)))] <| .e)) (.gs 12 8 4 1 aL false <| .l (lD c s p i) 0 (fun m => .b 53 (.s 16 (((c.chans.getD (((((c.procs.getD p av).puts).getD m a5).chan).toNat) be).dst) = (-1)) (.w 16 [(4,.val (dB true)),(16,.box 4 1 aL false [true]),(17,.box 4 1 aL false (an (b9 c s p) (m + 1)))] <| .w 17 [(0,.val (i6 ((m + 1 : Nat) : Int)))] <| .e) (.w 16 [(4,.val (dB false)),(16,.box 4 1 aL false [decide ((((s.chans.getD (((((c.procs.getD p av).puts).getD m a5).chan).toNat) []).length : Nat) : Int) < ((c.chans.getD (((((c.procs.getD p av).puts).getD m a5).chan).toNat) be).cap))]),(17,.box 4 1 aL false (an (b9 c s p) (m + 1)))] <| .w 17 [(0,.val (i6 ((m + 1 : Nat) : Int)))] <| .e)) (.f 18 3 <| .f 18 4 <| .w 18 [(12,(I1 (c.procs.getD p av) (s.procs.getD p a7) (an (b8 c s p) i) (an (b9 c s p) m)).O)] <| .e))))) Tryz.func52 rfl rfl rfl (by kernel_rfl) ?_
 refine tt ⟨ix,tt ⟨rfl,(by omega),?_⟩⟩
 intro i hinv
 have hi := hinv
 refine tt (cd (fun hc24 => ?_) (fun hc24 => ?_))
 · refine ⟨ix,?_⟩
   have htk : 0 ≤ ((c.procs.getD p av).takes.getD i bq).chan∧((c.procs.getD p av).takes.getD i bq).chan < c.chans.length := ⟨(hc.tk p hp i (show i < (c.procs.getD p av).takes.length by omega)).1,(hc.tk p hp i (show i < (c.procs.getD p av).takes.length by omega)).2.1⟩
   refine tt ⟨ix,tt (cd (fun hc35 => ?_) (fun hc35 => ?_))⟩
   · refine tt ⟨ix,tt ⟨⟨⟨rfl,rfl,oK⟩,oK⟩,⟨(bx (by omega) (by first | exact (if_pos (show 0 < (s.chans.getD ((c.procs.getD p av).takes.getD i bq).chan.toNat []).length by omega)).symm | exact (if_neg (show ¬0 < (s.chans.getD ((c.procs.getD p av).takes.getD i bq).chan.toNat []).length by omega)).symm)),tt ⟨w6,tt ⟨(i + 1),rfl,(?_ : (i + 1) ≤ (c.procs.getD p av).takes.length),(?_ : (c.procs.getD p av).takes.length - (i + 1) < (c.procs.getD p av).takes.length - i)⟩⟩⟩⟩⟩
     · omega
     · omega
   · refine tt ⟨⟨⟨rfl,rfl,oK⟩,oK⟩,⟨(bx (by omega) (by first | exact (if_pos (show 0 < (s.chans.getD ((c.procs.getD p av).takes.getD i bq).chan.toNat []).length by omega)).symm | exact (if_neg (show ¬0 < (s.chans.getD ((c.procs.getD p av).takes.getD i bq).chan.toNat []).length by omega)).symm)),tt ⟨w6,tt ⟨(i + 1),rfl,(?_ : (i + 1) ≤ (c.procs.getD p av).takes.length),(?_ : (c.procs.getD p av).takes.length - (i + 1) < (c.procs.getD p av).takes.length - i)⟩⟩⟩⟩
     · omega
     · omega
 · refine tt ⟨ix,tt ⟨rfl,(by omega),?_⟩⟩
   intro m hinv
   have hm := hinv
   refine tt (cd (fun hc53 => ?_) (fun hc53 => ?_))
   · refine ⟨ix,?_⟩
     have hpt : 0 ≤ ((c.procs.getD p av).puts.getD m a5).chan∧((c.procs.getD p av).puts.getD m a5).chan < c.chans.length := ⟨(hc.pt p hp m (show m < (c.procs.getD p av).puts.length by omega)).1,(hc.pt p hp m (show m < (c.procs.getD p av).puts.length by omega)).2.1⟩
     refine tt ⟨ix,tt ⟨fun hs0 => ?_,fun hs0 => ?_⟩⟩
     · refine tt ⟨(vT hs0),tt ⟨⟨⟨rfl,oK⟩,oK⟩,⟨(bx (by omega) (by first | exact (vM hs0).symm | exact (lA hs0).symm | exact (lA hs1).symm)),tt ⟨w6,tt ⟨(m + 1),rfl,(?_ : (m + 1) ≤ (c.procs.getD p av).puts.length),(?_ : (c.procs.getD p av).puts.length - (m + 1) < (c.procs.getD p av).puts.length - m)⟩⟩⟩⟩⟩
       · omega
       · omega
     · refine tt ⟨(vF hs0),tt ⟨ix,tt ⟨⟨⟨rfl,oK⟩,oK⟩,⟨(bx (by omega) (by first | exact (vM hs0).symm | exact (lA hs0).symm | exact (lA hs1).symm)),tt ⟨w6,tt ⟨(m + 1),rfl,(?_ : (m + 1) ≤ (c.procs.getD p av).puts.length),(?_ : (c.procs.getD p av).puts.length - (m + 1) < (c.procs.getD p av).puts.length - m)⟩⟩⟩⟩⟩⟩
       · omega
       · omega
   · have hie : i = (c.procs.getD p av).takes.length := by omega
     have hme : m = (c.procs.getD p av).puts.length := by omega
     refine tt ⟨ix,tt ⟨ix,tt ⟨(Dq (c.procs.getD p av) (s.procs.getD p a7) (an (b8 c s p) i) (an (b9 c s p) m) hpk (hs.pv p hp) (by rw [hie]; exact px hc hs hp) (by rw [aM]; omega)),tt ⟨?_,(congrArg _ (?_ : (((aV (c.procs.getD p av) (s.procs.getD p a7) (an (b8 c s p) i) (an (b9 c s p) m)).s).regs) = (((ab c s p).s).regs))),(congrArg _ (?_ : (((aV (c.procs.getD p av) (s.procs.getD p a7) (an (b8 c s p) i) (an (b9 c s p) m)).s).mems) = (((ab c s p).s).mems))),(congrArg _ (?_ : ((aV (c.procs.getD p av) (s.procs.getD p a7) (an (b8 c s p) i) (an (b9 c s p) m)).pops) = ((ab c s p).pops))),(congrArg _ (?_ : ((aV (c.procs.getD p av) (s.procs.getD p a7) (an (b8 c s p) i) (an (b9 c s p) m)).puts) = ((ab c s p).puts))),oK⟩⟩⟩⟩
     all_goals (all_goals (rw [hie,hme]; rfl))
end Go.Proofs.YtifoecfajmnjjaaGreat
