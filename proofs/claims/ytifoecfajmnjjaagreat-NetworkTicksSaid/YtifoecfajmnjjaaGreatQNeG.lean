/-
  Package network: valid states, starts, what a process does.
-/
import Derived.Test.YtifoecfajmnjjaaGreatQNeE
namespace Go.Proofs.YtifoecfajmnjjaaGreat
open Go.RowKit
set_option linter.unusedVariables false
set_option linter.unusedSimpArgs false
abbrev mP (c : Ci) : List D := [(dL 6 eG ao c.procs),(dL 5 iv a9 c.chans)]
abbrev t7 (s : Ns) : List D := [(dL 2 bc bg s.procs),(dL 1 ac [] s.chans)]
set_option maxRecDepth 100000
abbrev G3 (c : Ci) (s : Ns) : Ct := ⟨14,[(.agg (mP c)),(.agg (t7 s))],false,(dB (aZ c s))⟩
abbrev l5 (c : Ci) (s : Ns) : Lp (Nat) := ga [2,3,27,28,29] 2 (fun (i : Nat) => ⟨[(2,(.ptr 0 0 0 0)),(3,(.ptr 1 0 0 0)),(27,(dL 6 eG ao c.procs)),(28,(i6 (c.procs.length : Int))),(29,(i6 (i : Int)))],[(.var 31 (mP c)),(.var 36 (t7 s))]⟩) (fun (i : Nat) => i ≤ c.procs.length∧∀ z,z < i → bp (bC c z) (vp s z) = true) (fun (i : Nat) => c.procs.length - i)
abbrev gO (c : Ci) (s : Ns) : Lp (Nat) := ga [3,44,45,46] 2 (fun (n : Nat) => ⟨[(3,(.ptr 1 0 0 0)),(44,(dL 5 iv a9 c.chans)),(45,(i6 (c.chans.length : Int))),(46,(i6 (n : Int)))],[(.var 31 (mP c)),(.var 36 (t7 s))]⟩) (fun (n : Nat) => n ≤ c.chans.length∧∀ z,z < n → gu c s z = true) (fun (n : Nat) => c.chans.length - n)
theorem t8 (c : Ci) (s : Ns) (hc : bM c) (hsm : i7 s 9223372036854775807) : CC (G3 c s) := by
 have hnl := hc.nl
 have hcl := hc.cl
 refine ai.vc (V := TT 3 (CS ((s.procs.length : Int) = (c.procs.length : Int)) (TT 7 ((True∧(!decide ((s.procs.length : Int) = (c.procs.length : Int))) = false)∧TT 8 (CN ((s.chans.length : Int) = (c.chans.length : Int)) (TT 2 (false = (aZ c s)∧True)) (TT 4 (GO (l5 c s) 0 (∀ i,(l5 c s).inv i → TT 1 (CD ((i : Int) < (c.procs.length : Int)) (TT 1 (IX (i : Int) c.procs.length∧TT 8 (IX (i : Int) s.procs.length∧TT 1 (CC (Jb (c.procs.getD i ao) (s.procs.getD i bg))∧TT 1 (CB (!(bp (c.procs.getD i ao) (s.procs.getD i bg))) (TT 2 (false = (aZ c s)∧True)) (W6 ((i + 1 : Nat) : Int)∧TT 1 (AG (l5 c s) i (i + 1)))))))) (TT 4 (GO (gO c s) 0 (∀ n,(gO c s).inv n → TT 1 (CD ((n : Int) < (c.chans.length : Int)) (TT 1 (IX (n : Int) c.chans.length∧TT 4 (CS (((c.chans.getD n a9).frm) ≥ 0) (TT 3 ((True∧(decide (((c.chans.getD n a9).frm) ≥ 0)) = true)∧TT 5 (CS ((b9 (s.chans.getD n []) ((c.chans.getD n a9).w)) = true) (CS (((c.chans.getD n a9).dst) ≥ 0) (TT 3 (IX (n : Int) s.chans.length∧TT 3 (CC (Bp (s.chans.getD n []) ((c.chans.getD n a9).w))∧TT 1 ((True∧(!(b9 (s.chans.getD n []) ((c.chans.getD n a9).w))) = false)∧TT 1 ((True∧(decide (((c.chans.getD n a9).dst) ≥ 0)) = true)∧TT 3 (IX (n : Int) s.chans.length∧TT 7 (CD ((((s.chans.getD n []).length : Nat) : Int) > ((c.chans.getD n a9).cap)) (TT 2 (false = (aZ c s)∧True)) (W6 ((n + 1 : Nat) : Int)∧TT 1 (AG (gO c s) n (n + 1)))))))))) (TT 3 (IX (n : Int) s.chans.length∧TT 3 (CC (Bp (s.chans.getD n []) ((c.chans.getD n a9).w))∧TT 1 ((True∧(!(b9 (s.chans.getD n []) ((c.chans.getD n a9).w))) = false)∧TT 1 ((True∧(decide (((c.chans.getD n a9).dst) ≥ 0)) = false)∧TT 2 (W6 ((n + 1 : Nat) : Int)∧TT 1 (AG (gO c s) n (n + 1))))))))) (TT 3 (IX (n : Int) s.chans.length∧TT 3 (CC (Bp (s.chans.getD n []) ((c.chans.getD n a9).w))∧TT 1 ((True∧(!(b9 (s.chans.getD n []) ((c.chans.getD n a9).w))) = true)∧TT 3 (false = (aZ c s)∧True)))))))) (TT 3 ((True∧(decide (((c.chans.getD n a9).frm) ≥ 0)) = false)∧TT 5 (CS ((b9 (s.chans.getD n []) ((c.chans.getD n a9).w)) = true) (TT 3 (IX (n : Int) s.chans.length∧TT 3 (CC (Bp (s.chans.getD n []) ((c.chans.getD n a9).w))∧TT 1 ((True∧(!(b9 (s.chans.getD n []) ((c.chans.getD n a9).w))) = false)∧TT 4 (W6 ((n + 1 : Nat) : Int)∧TT 1 (AG (gO c s) n (n + 1))))))) (TT 3 (IX (n : Int) s.chans.length∧TT 3 (CC (Bp (s.chans.getD n []) ((c.chans.getD n a9).w))∧TT 1 ((True∧(!(b9 (s.chans.getD n []) ((c.chans.getD n a9).w))) = true)∧TT 3 (false = (aZ c s)∧True))))))))))) (TT 2 (true = (aZ c s)∧True))))))))))))) (TT 7 ((True∧(!decide ((s.procs.length : Int) = (c.procs.length : Int))) = true)∧TT 10 (false = (aZ c s)∧True))))) (.s 1 ((s.procs.length : Int) = (c.procs.length : Int)) (.w 1 [(7,.val (dB false))] <| .b 25 (.e) (.l (l5 c s) 0 (fun i => .b 30 (.w 6 [(6,(Jb (c.procs.getD i ao) (s.procs.getD i bg)).O)] <| .b 41 (.e) (.w 8 [(0,.val (i6 ((i + 1 : Nat) : Int)))] <| .e)) (.l (gO c s) 0 (fun n => .b 47 (.s 12 (((c.chans.getD n a9).frm) ≥ 0) (.w 12 [(3,.val (dB true))] <| .s 13 ((b9 (s.chans.getD n []) ((c.chans.getD n a9).w)) = true) (.s 13 (((c.chans.getD n a9).dst) ≥ 0) (.w 13 [(7,(Bp (s.chans.getD n []) ((c.chans.getD n a9).w)).O),(9,.val (dB false)),(11,.val (dB true))] <| .b 81 (.e) (.w 15 [(0,.val (i6 ((n + 1 : Nat) : Int)))] <| .e)) (.w 13 [(7,(Bp (s.chans.getD n []) ((c.chans.getD n a9).w)).O),(9,.val (dB false)),(11,.val (dB false))] <| .w 15 [(0,.val (i6 ((n + 1 : Nat) : Int)))] <| .e)) (.w 13 [(7,(Bp (s.chans.getD n []) ((c.chans.getD n a9).w)).O),(9,.val (dB true))] <| .e)) (.w 12 [(3,.val (dB false))] <| .s 13 ((b9 (s.chans.getD n []) ((c.chans.getD n a9).w)) = true) (.w 13 [(7,(Bp (s.chans.getD n []) ((c.chans.getD n a9).w)).O),(9,.val (dB false))] <| .w 15 [(0,.val (i6 ((n + 1 : Nat) : Int)))] <| .e) (.w 13 [(7,(Bp (s.chans.getD n []) ((c.chans.getD n a9).w)).O),(9,.val (dB true))] <| .e))) (.e)))))) (.w 1 [(7,.val (dB true))] <| .e)) Tryz.func14 rfl rfl rfl (by kernel_rfl) ?_
 refine tt ⟨fun hs0 => ?_,fun hs0 => ?_⟩
 · refine tt ⟨(nF hs0),tt (cn (fun hc25 => ?_) (fun hc25 => ?_))⟩
   · refine tt ⟨?_,oK⟩
     first | exact (fA (by omega)).symm | exact (fB (by omega)).symm | exact (fC (i := i) (by omega) (by simpa using hc41)).symm | exact (cg (n := n) (by omega) (dg (by first | exact hs2 | exact hs4))).symm | exact (cg (n := n) (by omega) (dh (by show 0 ≤ (c.chans.getD n a9).frm; omega) (by show 0 ≤ (c.chans.getD n a9).dst; omega) (by show ¬((s.chans.getD n []).length : Int) ≤ (c.chans.getD n a9).cap; omega))).symm | exact (fD (by omega) (by omega) (fun z hz => h3 z (by omega)) (fun z hz => h4 z (by omega))).symm
   · refine tt ⟨rfl,⟨by omega,fun z hz => by omega⟩,?_⟩
     intro i hinv
     obtain ⟨hi,h3⟩ := hinv
     refine tt (cd (fun hc30 => ?_) (fun hc30 => ?_))
     · refine tt ⟨ix,?_⟩
       have hpk := hc.pr i (by omega)
       refine tt ⟨ix,tt ⟨(Bg (c.procs.getD i ao) (s.procs.getD i bg) hpk),tt ⟨fun hc41 => ?_,fun hc41 => ?_⟩⟩⟩
       · refine tt ⟨?_,oK⟩
         first | exact (fA (by omega)).symm | exact (fB (by omega)).symm | exact (fC (i := i) (by omega) (by simpa using hc41)).symm | exact (cg (n := n) (by omega) (dg (by first | exact hs2 | exact hs4))).symm | exact (cg (n := n) (by omega) (dh (by show 0 ≤ (c.chans.getD n a9).frm; omega) (by show 0 ≤ (c.chans.getD n a9).dst; omega) (by show ¬((s.chans.getD n []).length : Int) ≤ (c.chans.getD n a9).cap; omega))).symm | exact (fD (by omega) (by omega) (fun z hz => h3 z (by omega)) (fun z hz => h4 z (by omega))).symm
       · refine ⟨w6,tt ⟨(i + 1),rfl,?_,(?_ : c.procs.length - (i + 1) < c.procs.length - i)⟩⟩
         · exact ⟨by omega,bU h3 (by simpa using hc41)⟩
         · omega
     · refine tt ⟨rfl,⟨by omega,fun z hz => by omega⟩,?_⟩
       intro n hinv
       obtain ⟨hn,h4⟩ := hinv
       refine tt (cd (fun hc47 => ?_) (fun hc47 => ?_))
       · refine tt ⟨ix,tt ?_⟩
         have hw : 1 ≤ (c.chans.getD n a9).w∧(c.chans.getD n a9).w ≤ 8 := aU.1 (hc.cw n (by omega))
         have hlw : (s.chans.getD n []).length ≤ 9223372036854775807 := hsm n
         refine ⟨fun hs1 => ?_,fun hs1 => ?_⟩
         · refine tt ⟨(vT hs1),tt ⟨fun hs2 => ?_,fun hs2 => ?_⟩⟩
           · refine ⟨fun hs3 => ?_,fun hs3 => ?_⟩
             · refine tt ⟨ix,tt ⟨(gN (s.chans.getD n []) ((c.chans.getD n a9).w) (by omega) (by omega) hlw),tt ⟨(mF hs2),tt ⟨(vT hs3),tt ⟨ix,tt (cd (fun hc81 => ?_) (fun hc81 => ?_))⟩⟩⟩⟩⟩
               · refine tt ⟨?_,oK⟩
                 first | exact (fA (by omega)).symm | exact (fB (by omega)).symm | exact (fC (i := i) (by omega) (by simpa using hc41)).symm | exact (cg (n := n) (by omega) (dg (by first | exact hs2 | exact hs4))).symm | exact (cg (n := n) (by omega) (dh (by show 0 ≤ (c.chans.getD n a9).frm; omega) (by show 0 ≤ (c.chans.getD n a9).dst; omega) (by show ¬((s.chans.getD n []).length : Int) ≤ (c.chans.getD n a9).cap; omega))).symm | exact (fD (by omega) (by omega) (fun z hz => h3 z (by omega)) (fun z hz => h4 z (by omega))).symm
               · refine ⟨w6,tt ⟨(n + 1),rfl,?_,(?_ : c.chans.length - (n + 1) < c.chans.length - n)⟩⟩
                 · refine ⟨by omega,bU h4 ?_⟩
                   first | exact qe (by first | exact hs2 | exact hs4) (by show ¬0 ≤ (c.chans.getD n a9).frm; omega) | exact qf (by first | exact hs2 | exact hs4) (by show ¬0 ≤ (c.chans.getD n a9).dst; omega) | exact qg (by first | exact hs2 | exact hs4) (by show ((s.chans.getD n []).length : Int) ≤ (c.chans.getD n a9).cap; omega)
                 · omega
             · refine tt ⟨ix,tt ⟨(gN (s.chans.getD n []) ((c.chans.getD n a9).w) (by omega) (by omega) hlw),tt ⟨(mF hs2),tt ⟨(vF hs3),tt ⟨w6,tt ⟨(n + 1),rfl,?_,(?_ : c.chans.length - (n + 1) < c.chans.length - n)⟩⟩⟩⟩⟩⟩
               · refine ⟨by omega,bU h4 ?_⟩
                 first | exact qe (by first | exact hs2 | exact hs4) (by show ¬0 ≤ (c.chans.getD n a9).frm; omega) | exact qf (by first | exact hs2 | exact hs4) (by show ¬0 ≤ (c.chans.getD n a9).dst; omega) | exact qg (by first | exact hs2 | exact hs4) (by show ((s.chans.getD n []).length : Int) ≤ (c.chans.getD n a9).cap; omega)
               · omega
           · refine tt ⟨ix,tt ⟨(gN (s.chans.getD n []) ((c.chans.getD n a9).w) (by omega) (by omega) hlw),tt ⟨(mT hs2),tt ⟨?_,oK⟩⟩⟩⟩
             first | exact (fA (by omega)).symm | exact (fB (by omega)).symm | exact (fC (i := i) (by omega) (by simpa using hc41)).symm | exact (cg (n := n) (by omega) (dg (by first | exact hs2 | exact hs4))).symm | exact (cg (n := n) (by omega) (dh (by show 0 ≤ (c.chans.getD n a9).frm; omega) (by show 0 ≤ (c.chans.getD n a9).dst; omega) (by show ¬((s.chans.getD n []).length : Int) ≤ (c.chans.getD n a9).cap; omega))).symm | exact (fD (by omega) (by omega) (fun z hz => h3 z (by omega)) (fun z hz => h4 z (by omega))).symm
         · refine tt ⟨(vF hs1),tt ⟨fun hs4 => ?_,fun hs4 => ?_⟩⟩
           · refine tt ⟨ix,tt ⟨(gN (s.chans.getD n []) ((c.chans.getD n a9).w) (by omega) (by omega) hlw),tt ⟨(mF hs4),tt ⟨w6,tt ⟨(n + 1),rfl,?_,(?_ : c.chans.length - (n + 1) < c.chans.length - n)⟩⟩⟩⟩⟩
             · refine ⟨by omega,bU h4 ?_⟩
               first | exact qe (by first | exact hs2 | exact hs4) (by show ¬0 ≤ (c.chans.getD n a9).frm; omega) | exact qf (by first | exact hs2 | exact hs4) (by show ¬0 ≤ (c.chans.getD n a9).dst; omega) | exact qg (by first | exact hs2 | exact hs4) (by show ((s.chans.getD n []).length : Int) ≤ (c.chans.getD n a9).cap; omega)
             · omega
           · refine tt ⟨ix,tt ⟨(gN (s.chans.getD n []) ((c.chans.getD n a9).w) (by omega) (by omega) hlw),tt ⟨(mT hs4),tt ⟨?_,oK⟩⟩⟩⟩
             first | exact (fA (by omega)).symm | exact (fB (by omega)).symm | exact (fC (i := i) (by omega) (by simpa using hc41)).symm | exact (cg (n := n) (by omega) (dg (by first | exact hs2 | exact hs4))).symm | exact (cg (n := n) (by omega) (dh (by show 0 ≤ (c.chans.getD n a9).frm; omega) (by show 0 ≤ (c.chans.getD n a9).dst; omega) (by show ¬((s.chans.getD n []).length : Int) ≤ (c.chans.getD n a9).cap; omega))).symm | exact (fD (by omega) (by omega) (fun z hz => h3 z (by omega)) (fun z hz => h4 z (by omega))).symm
       · refine tt ⟨?_,oK⟩
         first | exact (fA (by omega)).symm | exact (fB (by omega)).symm | exact (fC (i := i) (by omega) (by simpa using hc41)).symm | exact (cg (n := n) (by omega) (dg (by first | exact hs2 | exact hs4))).symm | exact (cg (n := n) (by omega) (dh (by show 0 ≤ (c.chans.getD n a9).frm; omega) (by show 0 ≤ (c.chans.getD n a9).dst; omega) (by show ¬((s.chans.getD n []).length : Int) ≤ (c.chans.getD n a9).cap; omega))).symm | exact (fD (by omega) (by omega) (fun z hz => h3 z (by omega)) (fun z hz => h4 z (by omega))).symm
 · refine tt ⟨(nT hs0),tt ⟨?_,oK⟩⟩
   first | exact (fA (by omega)).symm | exact (fB (by omega)).symm | exact (fC (i := i) (by omega) (by simpa using hc41)).symm | exact (cg (n := n) (by omega) (dg (by first | exact hs2 | exact hs4))).symm | exact (cg (n := n) (by omega) (dh (by show 0 ≤ (c.chans.getD n a9).frm; omega) (by show 0 ≤ (c.chans.getD n a9).dst; omega) (by show ¬((s.chans.getD n []).length : Int) ≤ (c.chans.getD n a9).cap; omega))).symm | exact (fD (by omega) (by omega) (fun z hz => h3 z (by omega)) (fun z hz => h4 z (by omega))).symm
abbrev Jj (c : Ci) : Ct := ⟨26,[(.agg (mP c))],true,(.agg [(dL 2 bc bg ((av c).procs)),(dL 1 ac [] ((av c).chans))])⟩
abbrev l6 (c : Ci) : Lp (Nat) := ga [2,3,12,13,14] 5 (fun (i : Nat) => ⟨[(2,(.ptr 1 0 0 0)),(3,(.ptr 3 0 0 0)),(12,(dL 6 eG ao c.procs)),(13,(i6 (c.procs.length : Int))),(14,(i6 (i : Int)))],[(.var 31 (mP c)),(.var 36 [.nils,.nils]),(.arr 43 1 ac [] (List.replicate c.chans.length ([] : List Int))),(.var 36 [(.own 4),(.own 2)]),(.arr 45 2 bc bg (ap (fun i => aV (bC c i)) i))]⟩) (fun (i : Nat) => i ≤ c.procs.length) (fun (i : Nat) => c.procs.length - i)
theorem Bq (c : Ci) (hc : bM c) : CC (Jj c) := by
 have hnl := hc.nl
 have hcl := hc.cl
 refine ai.vc (V := TT 5 ((((0 : Int) ≤ (c.chans.length : Int)∧(c.chans.length : Int) ≤ (c.chans.length : Int)∧(c.chans.length : Int) ≤ 137438953472)∧(List.replicate c.chans.length ([] : List Int)).length = c.chans.length∧∀ x ∈ (List.replicate c.chans.length ([] : List Int)),cy [.nils] (ac x))∧TT 7 (GO (l6 c) 0 (∀ i,(l6 c).inv i → TT 1 (CD ((i : Int) < (c.procs.length : Int)) (IX (i : Int) c.procs.length∧TT 6 (CC (Jc (c.procs.getD i ao))∧am [[(LI ((aV (c.procs.getD i ao)).regs)),(dL 1 ac [] ((aV (c.procs.getD i ao)).mems))]] ([(⟨(aV (c.procs.getD i ao)).regs,(aV (c.procs.getD i ao)).mems⟩ : Ps)].map bc)∧((ap (fun i => aV (bC c i)) i).length + ([(⟨(aV (c.procs.getD i ao)).regs,(aV (c.procs.getD i ao)).mems⟩ : Ps)].map bc).length ≤ 137438953472∧(ap (fun i => aV (bC c i)) i).map bc ++ [(⟨(aV (c.procs.getD i ao)).regs,(aV (c.procs.getD i ao)).mems⟩ : Ps)].map bc = (ap (fun i => aV (bC c i)) (i + 1)).map bc)∧TT 2 (W6 ((i + 1 : Nat) : Int)∧TT 1 (AG (l6 c) i (i + 1))))) (TT 3 ((ap (fun i => aV (bC c i)) i).map bc = ((av c).procs).map bc∧(List.replicate c.chans.length ([] : List Int)).map ac = ((av c).chans).map ac∧True))))))) (.w 1 [(3,.box 43 1 ac [] (List.replicate c.chans.length ([] : List Int)))] <| .g 2 3 0 45 2 bc bg <| .l (l6 c) 0 (fun i => .b 15 (.w 5 [(3,(Jc (c.procs.getD i ao)).O),(4,.box 45 2 bc bg [(⟨(aV (c.procs.getD i ao)).regs,(aV (c.procs.getD i ao)).mems⟩ : Ps)]),(5,.box 45 2 bc bg (ap (fun i => aV (bC c i)) (i + 1)))] <| .w 6 [(0,.val (i6 ((i + 1 : Nat) : Int)))] <| .e) (.e))) Tryz.func26 rfl rfl rfl (by kernel_rfl) ?_
 refine tt ⟨⟨by omega,by simp,fun x hx => by rw [List.eq_of_mem_replicate hx]; exact ⟨rfl,oK⟩⟩,tt ⟨rfl,(by omega),?_⟩⟩
 intro i hinv
 have hi := hinv
 refine tt (cd (fun hc15 => ?_) (fun hc15 => ?_))
 · refine ⟨ix,?_⟩
   have hpk := hc.pr i (by omega)
   refine tt ⟨(Bh (c.procs.getD i ao) hpk),⟨⟨⟨rfl,rfl,oK⟩,oK⟩,⟨(gF (f := fun i => aV (bC c i)) (by omega)),tt ⟨w6,tt ⟨(i + 1),rfl,(?_ : (i + 1) ≤ c.procs.length),(?_ : c.procs.length - (i + 1) < c.procs.length - i)⟩⟩⟩⟩⟩
   · omega
   · omega
 · refine tt ⟨(congrArg _ (?_ : (ap (fun i => aV (bC c i)) i) = ((av c).procs))),(congrArg _ (?_ : (List.replicate c.chans.length ([] : List Int)) = ((av c).chans))),oK⟩
   · rw [show i = c.procs.length by omega]; rfl
   · rfl
abbrev Jk (h : Ch) : Ct := ⟨83,[(.agg [(dS h.name),(i6 h.w),(i6 h.cap),(i6 h.frm),(i6 h.dst)])],false,(i6 h.frm)⟩
theorem Dw (h : Ch) : CC (Jk h) := by
 refine ai.vc (V := TT 6 (h.frm = h.frm∧True)) (.e) Tryz.func83 rfl rfl rfl (by kernel_rfl) ?_
 exact tt ⟨rfl,oK⟩
abbrev Jl (h : Ch) : Ct := ⟨86,[(.agg [(dS h.name),(i6 h.w),(i6 h.cap),(i6 h.frm),(i6 h.dst)])],false,(i6 h.dst)⟩
theorem Dx (h : Ch) : CC (Jl h) := by
 refine ai.vc (V := TT 6 (h.dst = h.dst∧True)) (.e) Tryz.func86 rfl rfl rfl (by kernel_rfl) ?_
 exact tt ⟨rfl,oK⟩
abbrev Dy (c : Ci) (n : Int) : Ct := ⟨82,[(.agg (mP c)),(i6 n),(.fn (.func 83) [] [])],false,(dB (ft (·.frm) c n))⟩
theorem w9 (c : Ci) (n : Int) (hc : bM c) : CC (Dy c n) := by
 have hnl := hc.nl
 have hcl := hc.cl
 refine ai.vc (V := TT 2 (CS (n ≥ 0) (CS (n < (c.chans.length : Int)) (TT 2 ((True∧(decide (n ≥ 0)) = true)∧TT 6 ((True∧(decide (n < (c.chans.length : Int))) = true)∧TT 4 (IX n c.chans.length∧TT 1 (CC (Jk (c.chans.getD n.toNat a9))∧TT 4 ((((c.chans.getD n.toNat a9).frm) == (-1)) = (ft (·.frm) c n)∧True)))))) (TT 2 ((True∧(decide (n ≥ 0)) = true)∧TT 6 ((True∧(decide (n < (c.chans.length : Int))) = false)∧TT 11 (false = (ft (·.frm) c n)∧True))))) (TT 2 ((True∧(decide (n ≥ 0)) = false)∧TT 18 (false = (ft (·.frm) c n)∧True))))) (.s 1 (n ≥ 0) (.s 1 (n < (c.chans.length : Int)) (.w 1 [(2,.val (dB true)),(9,.val (dB true)),(16,(Jk (c.chans.getD n.toNat a9)).O)] <| .e) (.w 1 [(2,.val (dB true)),(9,.val (dB false))] <| .e)) (.w 1 [(2,.val (dB false))] <| .e)) Tryz.func82 rfl rfl rfl (by kernel_rfl) ?_
 refine tt ⟨fun hs0 => ?_,fun hs0 => ?_⟩
 · refine ⟨fun hs1 => ?_,fun hs1 => ?_⟩
   · refine tt ⟨(vT hs0),tt ⟨(vT hs1),tt ⟨ix,tt ⟨(Dw (c.chans.getD n.toNat a9)),tt ⟨?_,oK⟩⟩⟩⟩⟩
     first | exact (ji (by omega)).symm | exact (jj (by omega)).symm | exact (eF (by omega) (by omega)).symm | (rw [eF (by omega) (by omega)]; simp)
   · refine tt ⟨(vT hs0),tt ⟨(vF hs1),tt ⟨?_,oK⟩⟩⟩
     first | exact (ji (by omega)).symm | exact (jj (by omega)).symm | exact (eF (by omega) (by omega)).symm | (rw [eF (by omega) (by omega)]; simp)
 · refine tt ⟨(vF hs0),tt ⟨?_,oK⟩⟩
   first | exact (ji (by omega)).symm | exact (jj (by omega)).symm | exact (eF (by omega) (by omega)).symm | (rw [eF (by omega) (by omega)]; simp)
abbrev Gz (c : Ci) (n : Int) : Ct := ⟨82,[(.agg (mP c)),(i6 n),(.fn (.func 86) [] [])],false,(dB (ft (·.dst) c n))⟩
theorem Dz (c : Ci) (n : Int) (hc : bM c) : CC (Gz c n) := by
 have hnl := hc.nl
 have hcl := hc.cl
 refine ai.vc (V := TT 2 (CS (n ≥ 0) (CS (n < (c.chans.length : Int)) (TT 2 ((True∧(decide (n ≥ 0)) = true)∧TT 6 ((True∧(decide (n < (c.chans.length : Int))) = true)∧TT 4 (IX n c.chans.length∧TT 1 (CC (Jl (c.chans.getD n.toNat a9))∧TT 4 ((((c.chans.getD n.toNat a9).dst) == (-1)) = (ft (·.dst) c n)∧True)))))) (TT 2 ((True∧(decide (n ≥ 0)) = true)∧TT 6 ((True∧(decide (n < (c.chans.length : Int))) = false)∧TT 11 (false = (ft (·.dst) c n)∧True))))) (TT 2 ((True∧(decide (n ≥ 0)) = false)∧TT 18 (false = (ft (·.dst) c n)∧True))))) (.s 1 (n ≥ 0) (.s 1 (n < (c.chans.length : Int)) (.w 1 [(2,.val (dB true)),(9,.val (dB true)),(16,(Jl (c.chans.getD n.toNat a9)).O)] <| .e) (.w 1 [(2,.val (dB true)),(9,.val (dB false))] <| .e)) (.w 1 [(2,.val (dB false))] <| .e)) Tryz.func82 rfl rfl rfl (by kernel_rfl) ?_
 refine tt ⟨fun hs0 => ?_,fun hs0 => ?_⟩
 · refine ⟨fun hs1 => ?_,fun hs1 => ?_⟩
   · refine tt ⟨(vT hs0),tt ⟨(vT hs1),tt ⟨ix,tt ⟨(Dx (c.chans.getD n.toNat a9)),tt ⟨?_,oK⟩⟩⟩⟩⟩
     first | exact (ji (by omega)).symm | exact (jj (by omega)).symm | exact (eF (by omega) (by omega)).symm | (rw [eF (by omega) (by omega)]; simp)
   · refine tt ⟨(vT hs0),tt ⟨(vF hs1),tt ⟨?_,oK⟩⟩⟩
     first | exact (ji (by omega)).symm | exact (jj (by omega)).symm | exact (eF (by omega) (by omega)).symm | (rw [eF (by omega) (by omega)]; simp)
 · refine tt ⟨(vF hs0),tt ⟨?_,oK⟩⟩
   first | exact (ji (by omega)).symm | exact (jj (by omega)).symm | exact (eF (by omega) (by omega)).symm | (rw [eF (by omega) (by omega)]; simp)
abbrev GA (c : Ci) (s : Ns) (p : Nat) : Ct := ⟨52,[(.agg (mP c)),(.agg (t7 s)),(i6 (p : Int))],true,(.agg [(dB ((aa c s p).fires)),(LI (((aa c s p).s).regs)),(dL 1 ac [] (((aa c s p).s).mems)),(LB ((aa c s p).pops)),(dL 2 bo aJ ((aa c s p).puts))])⟩
abbrev lk (c : Ci) (s : Ns) (p : Nat) : Lp (Nat) := ga [2,3,4,6,7,8,21,22,23] 4 (fun (i : Nat) => ⟨[(2,(i6 (p : Int))),(3,(.ptr 0 0 0 0)),(4,(.ptr 1 0 0 0)),(6,(.ptr 2 0 0 0)),(7,(.own 3)),(8,.nils),(21,(dL 9 iu bn ((c.procs.getD p ao).takes))),(22,(i6 ((((c.procs.getD p ao).takes).length : Nat) : Int))),(23,(i6 (i : Int)))],[(.var 31 (mP c)),(.var 36 (t7 s)),(.var 48 [(dB false),.nils,.nils,.nils,.nils]),(.arr 68 2 bo aJ (ap (bZ c s p) i))]⟩) (fun (i : Nat) => i ≤ (c.procs.getD p ao).takes.length) (fun (i : Nat) => (c.procs.getD p ao).takes.length - i)
abbrev ll (c : Ci) (s : Ns) (p : Nat) (i : Nat) : Lp (Nat) := ga [2,3,4,6,7,8,50,51,52] 5 (fun (m : Nat) => ⟨[(2,(i6 (p : Int))),(3,(.ptr 0 0 0 0)),(4,(.ptr 1 0 0 0)),(6,(.ptr 2 0 0 0)),(7,(.own 3)),(8,(.own 4)),(50,(dL 16 eS aY ((c.procs.getD p ao).puts))),(51,(i6 ((((c.procs.getD p ao).puts).length : Nat) : Int))),(52,(i6 (m : Int)))],[(.var 31 (mP c)),(.var 36 (t7 s)),(.var 48 [(dB false),.nils,.nils,.nils,.nils]),(.arr 68 2 bo aJ (ap (bZ c s p) i)),(.arr 4 1 aK false (ap (b3 c s p) m))]⟩) (fun (m : Nat) => m ≤ (c.procs.getD p ao).puts.length) (fun (m : Nat) => (c.procs.getD p ao).puts.length - m)
theorem sw (c : Ci) (s : Ns) (p : Nat) (hc : bM c) (hs : cr c s) (hp : p < c.procs.length) : CC (GA c s p) := by
 have hnl := hc.nl
 have hcl := hc.cl
 have hpk : fq (c.procs.getD p ao) := hc.pr p hp
 have hl1 := hs.pl
 have hl2 := hs.cl
 have ht1 : (c.procs.getD p ao).takes.length ≤ 100 := hpk.tl
 have ht2 : (c.procs.getD p ao).puts.length ≤ 100 := hpk.pl
 refine ai.vc (V := TT 8 (IX (p : Int) c.procs.length∧TT 4 (GO (lk c s p) 0 (∀ i,(lk c s p).inv i → TT 1 (CD ((i : Int) < ((((c.procs.getD p ao).takes).length : Nat) : Int)) (IX (i : Int) (((c.procs.getD p ao).takes).length)∧TT 8 (IX ((((c.procs.getD p ao).takes).getD i bn).chan) s.chans.length∧TT 5 (CD ((((s.chans.getD (((((c.procs.getD p ao).takes).getD i bn).chan).toNat) []).length : Nat) : Int) > 0) (TT 1 (IX 0 ((s.chans.getD (((((c.procs.getD p ao).takes).getD i bn).chan).toNat) []).length)∧TT 5 (am [[(dB true),(i6 ((s.chans.getD (((((c.procs.getD p ao).takes).getD i bn).chan).toNat) []).getD 0 0))]] ([(⟨true,((s.chans.getD (((((c.procs.getD p ao).takes).getD i bn).chan).toNat) []).getD 0 0)⟩ : Hd)].map bo)∧((ap (bZ c s p) i).length + ([(⟨true,((s.chans.getD (((((c.procs.getD p ao).takes).getD i bn).chan).toNat) []).getD 0 0)⟩ : Hd)].map bo).length ≤ 137438953472∧(ap (bZ c s p) i).map bo ++ [(⟨true,((s.chans.getD (((((c.procs.getD p ao).takes).getD i bn).chan).toNat) []).getD 0 0)⟩ : Hd)].map bo = (ap (bZ c s p) (i + 1)).map bo)∧TT 1 (W6 ((i + 1 : Nat) : Int)∧TT 1 (AG (lk c s p) i (i + 1)))))) (TT 2 (am [[(dB false),(i6 0)]] ([(⟨false,0⟩ : Hd)].map bo)∧((ap (bZ c s p) i).length + ([(⟨false,0⟩ : Hd)].map bo).length ≤ 137438953472∧(ap (bZ c s p) i).map bo ++ [(⟨false,0⟩ : Hd)].map bo = (ap (bZ c s p) (i + 1)).map bo)∧TT 1 (W6 ((i + 1 : Nat) : Int)∧TT 1 (AG (lk c s p) i (i + 1)))))))) (TT 3 (IX (p : Int) c.procs.length∧TT 4 (GO (ll c s p i) 0 (∀ m,(ll c s p i).inv m → TT 1 (CD ((m : Int) < ((((c.procs.getD p ao).puts).length : Nat) : Int)) (IX (m : Int) (((c.procs.getD p ao).puts).length)∧TT 7 (IX ((((c.procs.getD p ao).puts).getD m aY).chan) c.chans.length∧TT 3 (CS (((c.chans.getD (((((c.procs.getD p ao).puts).getD m aY).chan).toNat) a9).dst) = (-1)) (TT 4 ((True∧(decide (((c.chans.getD (((((c.procs.getD p ao).puts).getD m aY).chan).toNat) a9).dst) = (-1))) = true)∧TT 1 (am [[(dB true)]] ([true].map aK)∧((ap (b3 c s p) m).length + ([true].map aK).length ≤ 137438953472∧(ap (b3 c s p) m).map aK ++ [true].map aK = (ap (b3 c s p) (m + 1)).map aK)∧TT 1 (W6 ((m + 1 : Nat) : Int)∧TT 1 (AG (ll c s p i) m (m + 1)))))) (TT 4 ((True∧(decide (((c.chans.getD (((((c.procs.getD p ao).puts).getD m aY).chan).toNat) a9).dst) = (-1))) = false)∧TT 4 (IX ((((c.procs.getD p ao).puts).getD m aY).chan) s.chans.length∧TT 6 (am [[(dB (decide ((((s.chans.getD (((((c.procs.getD p ao).puts).getD m aY).chan).toNat) []).length : Nat) : Int) < ((c.chans.getD (((((c.procs.getD p ao).puts).getD m aY).chan).toNat) a9).cap))))]] ([decide ((((s.chans.getD (((((c.procs.getD p ao).puts).getD m aY).chan).toNat) []).length : Nat) : Int) < ((c.chans.getD (((((c.procs.getD p ao).puts).getD m aY).chan).toNat) a9).cap))].map aK)∧((ap (b3 c s p) m).length + ([decide ((((s.chans.getD (((((c.procs.getD p ao).puts).getD m aY).chan).toNat) []).length : Nat) : Int) < ((c.chans.getD (((((c.procs.getD p ao).puts).getD m aY).chan).toNat) a9).cap))].map aK).length ≤ 137438953472∧(ap (b3 c s p) m).map aK ++ [decide ((((s.chans.getD (((((c.procs.getD p ao).puts).getD m aY).chan).toNat) []).length : Nat) : Int) < ((c.chans.getD (((((c.procs.getD p ao).puts).getD m aY).chan).toNat) a9).cap))].map aK = (ap (b3 c s p) (m + 1)).map aK)∧TT 1 (W6 ((m + 1 : Nat) : Int)∧TT 1 (AG (ll c s p i) m (m + 1)))))))))) (TT 3 (IX (p : Int) c.procs.length∧TT 4 (IX (p : Int) s.procs.length∧TT 3 (CC (Jd (c.procs.getD p ao) (s.procs.getD p bg) (ap (bZ c s p) i) (ap (b3 c s p) m))∧TT 2 (((aP (c.procs.getD p ao) (s.procs.getD p bg) (ap (bZ c s p) i) (ap (b3 c s p) m)).fires) = ((aa c s p).fires)∧(((aP (c.procs.getD p ao) (s.procs.getD p bg) (ap (bZ c s p) i) (ap (b3 c s p) m)).s).regs).map (af .i64) = (((aa c s p).s).regs).map (af .i64)∧(((aP (c.procs.getD p ao) (s.procs.getD p bg) (ap (bZ c s p) i) (ap (b3 c s p) m)).s).mems).map ac = (((aa c s p).s).mems).map ac∧((aP (c.procs.getD p ao) (s.procs.getD p bg) (ap (bZ c s p) i) (ap (b3 c s p) m)).pops).map aK = ((aa c s p).pops).map aK∧((aP (c.procs.getD p ao) (s.procs.getD p bg) (ap (bZ c s p) i) (ap (b3 c s p) m)).puts).map bo = ((aa c s p).puts).map bo∧True))))))))))))))) (.gs 3 7 68 2 bo aJ <| .l (lk c s p) 0 (fun i => .b 24 (.b 35 (.w 10 [(2,.box 68 2 bo aJ [(⟨true,((s.chans.getD (((((c.procs.getD p ao).takes).getD i bn).chan).toNat) []).getD 0 0)⟩ : Hd)]),(3,.box 68 2 bo aJ (ap (bZ c s p) (i + 1)))] <| .w 11 [(0,.val (i6 ((i + 1 : Nat) : Int)))] <| .e) (.w 10 [(2,.box 68 2 bo aJ [(⟨false,0⟩ : Hd)]),(3,.box 68 2 bo aJ (ap (bZ c s p) (i + 1)))] <| .w 11 [(0,.val (i6 ((i + 1 : Nat) : Int)))] <| .e)) (.gs 12 8 4 1 aK false <| .l (ll c s p i) 0 (fun m => .b 53 (.s 16 (((c.chans.getD (((((c.procs.getD p ao).puts).getD m aY).chan).toNat) a9).dst) = (-1)) (.w 16 [(4,.val (dB true)),(16,.box 4 1 aK false [true]),(17,.box 4 1 aK false (ap (b3 c s p) (m + 1)))] <| .w 17 [(0,.val (i6 ((m + 1 : Nat) : Int)))] <| .e) (.w 16 [(4,.val (dB false)),(16,.box 4 1 aK false [decide ((((s.chans.getD (((((c.procs.getD p ao).puts).getD m aY).chan).toNat) []).length : Nat) : Int) < ((c.chans.getD (((((c.procs.getD p ao).puts).getD m aY).chan).toNat) a9).cap))]),(17,.box 4 1 aK false (ap (b3 c s p) (m + 1)))] <| .w 17 [(0,.val (i6 ((m + 1 : Nat) : Int)))] <| .e)) (.f 18 3 <| .f 18 4 <| .w 18 [(12,(Jd (c.procs.getD p ao) (s.procs.getD p bg) (ap (bZ c s p) i) (ap (b3 c s p) m)).O)] <| .e))))) Tryz.func52 rfl rfl rfl (by kernel_rfl) ?_
 refine tt ⟨ix,tt ⟨rfl,(by omega),?_⟩⟩
 intro i hinv
 have hi := hinv
 refine tt (cd (fun hc24 => ?_) (fun hc24 => ?_))
 · refine ⟨ix,?_⟩
   have htk : 0 ≤ ((c.procs.getD p ao).takes.getD i bn).chan∧((c.procs.getD p ao).takes.getD i bn).chan < c.chans.length := ⟨(hc.tk p hp i (show i < (c.procs.getD p ao).takes.length by omega)).1,(hc.tk p hp i (show i < (c.procs.getD p ao).takes.length by omega)).2.1⟩
   refine tt ⟨ix,tt (cd (fun hc35 => ?_) (fun hc35 => ?_))⟩
   · refine tt ⟨ix,tt ⟨⟨⟨rfl,rfl,oK⟩,oK⟩,⟨(bw (by omega) (by first | exact (if_pos (show 0 < (s.chans.getD ((c.procs.getD p ao).takes.getD i bn).chan.toNat []).length by omega)).symm | exact (if_neg (show ¬0 < (s.chans.getD ((c.procs.getD p ao).takes.getD i bn).chan.toNat []).length by omega)).symm)),tt ⟨w6,tt ⟨(i + 1),rfl,(?_ : (i + 1) ≤ (c.procs.getD p ao).takes.length),(?_ : (c.procs.getD p ao).takes.length - (i + 1) < (c.procs.getD p ao).takes.length - i)⟩⟩⟩⟩⟩
     · omega
     · omega
   · refine tt ⟨⟨⟨rfl,rfl,oK⟩,oK⟩,⟨(bw (by omega) (by first | exact (if_pos (show 0 < (s.chans.getD ((c.procs.getD p ao).takes.getD i bn).chan.toNat []).length by omega)).symm | exact (if_neg (show ¬0 < (s.chans.getD ((c.procs.getD p ao).takes.getD i bn).chan.toNat []).length by omega)).symm)),tt ⟨w6,tt ⟨(i + 1),rfl,(?_ : (i + 1) ≤ (c.procs.getD p ao).takes.length),(?_ : (c.procs.getD p ao).takes.length - (i + 1) < (c.procs.getD p ao).takes.length - i)⟩⟩⟩⟩
     · omega
     · omega
 · refine tt ⟨ix,tt ⟨rfl,(by omega),?_⟩⟩
   intro m hinv
   have hm := hinv
   refine tt (cd (fun hc53 => ?_) (fun hc53 => ?_))
   · refine ⟨ix,?_⟩
     have hpt : 0 ≤ ((c.procs.getD p ao).puts.getD m aY).chan∧((c.procs.getD p ao).puts.getD m aY).chan < c.chans.length := ⟨(hc.pt p hp m (show m < (c.procs.getD p ao).puts.length by omega)).1,(hc.pt p hp m (show m < (c.procs.getD p ao).puts.length by omega)).2.1⟩
     refine tt ⟨ix,tt ⟨fun hs0 => ?_,fun hs0 => ?_⟩⟩
     · refine tt ⟨(vT hs0),tt ⟨⟨⟨rfl,oK⟩,oK⟩,⟨(bw (by omega) (by first | exact (vA hs0).symm | exact (lj hs0).symm | exact (lj hs1).symm)),tt ⟨w6,tt ⟨(m + 1),rfl,(?_ : (m + 1) ≤ (c.procs.getD p ao).puts.length),(?_ : (c.procs.getD p ao).puts.length - (m + 1) < (c.procs.getD p ao).puts.length - m)⟩⟩⟩⟩⟩
       · omega
       · omega
     · refine tt ⟨(vF hs0),tt ⟨ix,tt ⟨⟨⟨rfl,oK⟩,oK⟩,⟨(bw (by omega) (by first | exact (vA hs0).symm | exact (lj hs0).symm | exact (lj hs1).symm)),tt ⟨w6,tt ⟨(m + 1),rfl,(?_ : (m + 1) ≤ (c.procs.getD p ao).puts.length),(?_ : (c.procs.getD p ao).puts.length - (m + 1) < (c.procs.getD p ao).puts.length - m)⟩⟩⟩⟩⟩⟩
       · omega
       · omega
   · have hie : i = (c.procs.getD p ao).takes.length := by omega
     have hme : m = (c.procs.getD p ao).puts.length := by omega
     refine tt ⟨ix,tt ⟨ix,tt ⟨(Dq (c.procs.getD p ao) (s.procs.getD p bg) (ap (bZ c s p) i) (ap (b3 c s p) m) hpk (hs.pv p hp) (by rw [hie]; exact oT hc hs hp) (by rw [aR]; omega)),tt ⟨?_,(congrArg _ (?_ : (((aP (c.procs.getD p ao) (s.procs.getD p bg) (ap (bZ c s p) i) (ap (b3 c s p) m)).s).regs) = (((aa c s p).s).regs))),(congrArg _ (?_ : (((aP (c.procs.getD p ao) (s.procs.getD p bg) (ap (bZ c s p) i) (ap (b3 c s p) m)).s).mems) = (((aa c s p).s).mems))),(congrArg _ (?_ : ((aP (c.procs.getD p ao) (s.procs.getD p bg) (ap (bZ c s p) i) (ap (b3 c s p) m)).pops) = ((aa c s p).pops))),(congrArg _ (?_ : ((aP (c.procs.getD p ao) (s.procs.getD p bg) (ap (bZ c s p) i) (ap (b3 c s p) m)).puts) = ((aa c s p).puts))),oK⟩⟩⟩⟩
     all_goals (all_goals (rw [hie,hme]; rfl))
end Go.Proofs.YtifoecfajmnjjaaGreat
