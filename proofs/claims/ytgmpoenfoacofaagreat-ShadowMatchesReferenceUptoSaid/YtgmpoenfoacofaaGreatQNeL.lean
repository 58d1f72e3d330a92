/-
  The reference of package network: states, words, single processes.
-/
import Derived.Test.YtgmpoenfoacofaaGreatQNeJ
import Derived.Test.YtgmpoenfoacofaaGreatQNeK
import Derived.Test.YtgmpoenfoacofaaGreatQPrD
namespace Go.Proofs.YtgmpoenfoacofaaGreat
open Go.RowKit
set_option linter.unusedVariables false
set_option linter.unusedSimpArgs false
abbrev rA (c : Ci) : List D := [(dL 6 eu au c.procs),(dL 5 eB bi c.chans)]
abbrev ue (s : Ns) : List D := [(dL 2 aV a7 s.procs),(dL 1 ac [] s.chans)]
set_option maxRecDepth 100000
abbrev Lo (l : List Int) (w : Int) : Ct := ⟨46,[(LI l),(i6 w)],false,(dB (fN l w))⟩
abbrev j8 (l : List Int) (w : Int) : Lp (Nat) := f6 [0,1,5] 0 (fun (i : Nat) => ⟨[(0,(LI l)),(1,(i6 w)),(5,(i6 (i : Int)))],[]⟩) (fun (i : Nat) => i ≤ l.length∧∀ z,z < i → ga (l.getD z 0) w = true) (fun (i : Nat) => l.length - i)
theorem Au (l : List Int) (w : Int) (hl : l.length ≤ 9223372036854775807) : CC (Lo l w) := by
 refine af.vc (V := TT 2 (GO (j8 l w) 0 (∀ i,(j8 l w).inv i → TT 4 (CD ((i : Int) < (l.length : Int)) (CS ((l.getD i 0) < 0) (TT 2 (IX (i : Int) l.length∧TT 2 ((True∧(decide ((l.getD i 0) < 0)) = true)∧TT 3 (false = (fN l w)∧True)))) (TT 2 (IX (i : Int) l.length∧TT 2 ((True∧(decide ((l.getD i 0) < 0)) = false)∧TT 2 (IX (i : Int) l.length∧TT 2 (CC (Ap w)∧TT 2 (CD ((l.getD i 0) > (ah w)) (TT 2 (false = (fN l w)∧True)) (TT 1 (W6 ((i + 1 : Nat) : Int)∧TT 1 (AG (j8 l w) i (i + 1))))))))))) (TT 2 (true = (fN l w)∧True)))))) (.l (j8 l w) 0 (fun i => .b 9 (.s 4 ((l.getD i 0) < 0) (.w 4 [(5,.val (dB true))] <| .e) (.w 4 [(5,.val (dB false)),(11,(Ap w).O)] <| .b 25 (.e) (.w 3 [(1,.val (i6 ((i + 1 : Nat) : Int)))] <| .e))) (.e))) Tryz.func46 rfl rfl rfl (by kernel_rfl) ?_
 refine tt ⟨rfl,⟨by omega,fun z hz => by omega⟩,?_⟩
 intro i hinv
 obtain ⟨hi,h3⟩ := hinv
 refine tt (cd (fun hc9 => ?_) (fun hc9 => ?_))
 · refine ⟨fun hs0 => ?_,fun hs0 => ?_⟩
   · refine tt ⟨ix,tt ⟨(vT hs0),tt ⟨?_,oK⟩⟩⟩
     first | exact (l5 (i := i) (by omega) (xw hs0)).symm | exact (l5 (i := i) (by omega) (xx hc25)).symm | exact (t1 (fun z hz => h3 z (by omega))).symm
   · refine tt ⟨ix,tt ⟨(vF hs0),tt ⟨ix,tt ⟨(ii w),tt (cd (fun hc25 => ?_) (fun hc25 => ?_))⟩⟩⟩⟩
     · refine tt ⟨?_,oK⟩
       first | exact (l5 (i := i) (by omega) (xw hs0)).symm | exact (l5 (i := i) (by omega) (xx hc25)).symm | exact (t1 (fun z hz => h3 z (by omega))).symm
     · refine tt ⟨w6,tt ⟨(i + 1),rfl,?_,(?_ : l.length - (i + 1) < l.length - i)⟩⟩
       · exact ⟨by omega,bH h3 (GS hs0 hc25)⟩
       · omega
 · refine tt ⟨?_,oK⟩
   first | exact (l5 (i := i) (by omega) (xw hs0)).symm | exact (l5 (i := i) (by omega) (xx hc25)).symm | exact (t1 (fun z hz => h3 z (by omega))).symm
abbrev Lq (c : Ci) : Ct := ⟨52,[(.agg (rA c))],true,(.agg [(dL 2 aV a7 ((aB c).procs)),(dL 1 ac [] ((aB c).chans))])⟩
abbrev mb (c : Ci) : Lp (Nat) := f6 [1,2,3,4] 5 (fun (i : Nat) => ⟨[(1,(.ptr 0 0 0 0)),(2,(.ptr 1 0 0 0)),(3,(.ptr 3 0 0 0)),(4,(i6 (i : Int)))],[(.var 38 (rA c)),(.var 42 [.nils,.nils]),(.arr 28 1 ac [] (List.replicate c.chans.length ([] : List Int))),(.var 42 [(.own 4),(.own 2)]),(.arr 112 2 aV a7 (tab (fun i => aN (bK c i)) i))]⟩) (fun (i : Nat) => i ≤ c.procs.length) (fun (i : Nat) => c.procs.length - i)
theorem Dj (c : Ci) (hc : bC c) : CC (Lq c) := by
 have hnl := hc.nl
 have hcl := hc.cl
 refine af.vc (V := TT 5 ((((0 : Int) ≤ (c.chans.length : Int)∧(c.chans.length : Int) ≤ (c.chans.length : Int)∧(c.chans.length : Int) ≤ 137438953472)∧(List.replicate c.chans.length ([] : List Int)).length = c.chans.length∧∀ x ∈ (List.replicate c.chans.length ([] : List Int)),cB [.nils] (ac x))∧TT 4 (GO (mb c) 0 (∀ i,(mb c).inv i → TT 5 (CD ((i : Int) < (c.procs.length : Int)) (TT 5 (IX (i : Int) c.procs.length∧TT 1 (CC (Ll (c.procs.getD i au))∧am [[(LI ((aN (c.procs.getD i au)).regs)),(dL 1 ac [] ((aN (c.procs.getD i au)).mems))]] ([(⟨(aN (c.procs.getD i au)).regs,(aN (c.procs.getD i au)).mems⟩ : Ps)].map aV)∧((tab (fun i => aN (bK c i)) i).length + ([(⟨(aN (c.procs.getD i au)).regs,(aN (c.procs.getD i au)).mems⟩ : Ps)].map aV).length ≤ 137438953472∧(tab (fun i => aN (bK c i)) i).map aV ++ [(⟨(aN (c.procs.getD i au)).regs,(aN (c.procs.getD i au)).mems⟩ : Ps)].map aV = (tab (fun i => aN (bK c i)) (i + 1)).map aV)∧TT 3 (W6 ((i + 1 : Nat) : Int)∧TT 1 (AG (mb c) i (i + 1)))))) (TT 3 ((tab (fun i => aN (bK c i)) i).map aV = ((aB c).procs).map aV∧(List.replicate c.chans.length ([] : List Int)).map ac = ((aB c).chans).map ac∧True))))))) (.w 1 [(3,.box 28 1 ac [] (List.replicate c.chans.length ([] : List Int)))] <| .g 2 3 0 112 2 aV a7 <| .l (mb c) 0 (fun i => .b 14 (.w 5 [(7,(Ll (c.procs.getD i au)).O),(8,.box 112 2 aV a7 [(⟨(aN (c.procs.getD i au)).regs,(aN (c.procs.getD i au)).mems⟩ : Ps)]),(9,.box 112 2 aV a7 (tab (fun i => aN (bK c i)) (i + 1)))] <| .w 4 [(1,.val (i6 ((i + 1 : Nat) : Int)))] <| .e) (.e))) Tryz.func52 rfl rfl rfl (by kernel_rfl) ?_
 refine tt ⟨⟨by omega,by simp,fun x hx => by rw [List.eq_of_mem_replicate hx]; exact ⟨rfl,oK⟩⟩,tt ⟨rfl,(by omega),?_⟩⟩
 intro i hinv
 have hi := hinv
 refine tt (cd (fun hc14 => ?_) (fun hc14 => ?_))
 · have hpk := hc.pr i (by omega)
   refine tt ⟨ix,tt ⟨(Dg (c.procs.getD i au) hpk),⟨⟨⟨rfl,rfl,oK⟩,oK⟩,⟨(fA (f := fun i => aN (bK c i)) (by omega)),tt ⟨w6,tt ⟨(i + 1),rfl,(?_ : (i + 1) ≤ c.procs.length),(?_ : c.procs.length - (i + 1) < c.procs.length - i)⟩⟩⟩⟩⟩⟩
   · omega
   · omega
 · refine tt ⟨(congrArg _ (?_ : (tab (fun i => aN (bK c i)) i) = ((aB c).procs))),(congrArg _ (?_ : (List.replicate c.chans.length ([] : List Int)) = ((aB c).chans))),oK⟩
   · rw [show i = c.procs.length by omega]; rfl
   · rfl
abbrev JY (s : Ns) (n : Int) (l : List Int) : Ct := ⟨56,[(.agg (ue s)),(i6 n),(LI l)],true,(.agg [(dL 2 aV a7 ((ec s n.toNat l).procs)),(dL 1 ac [] ((ec s n.toNat l).chans))])⟩
theorem BX (s : Ns) (n : Int) (l : List Int) (h1 : 0 ≤ n) (h2 : n < s.chans.length) (h3 : s.chans.length ≤ 1000000) : CC (JY s n l) := by
 refine af.vc (V := TT 4 (am [] (([] : List (List Int)).map ac)∧TT 2 ((([] : List (List Int)).length + (s.chans.map ac).length ≤ 137438953472∧([] : List (List Int)).map ac ++ s.chans.map ac = s.chans.map ac)∧TT 7 (IX n s.chans.length∧(n.toNat < s.chans.length∧(s.chans.map ac).set n.toNat ((ac (s.chans.getD n.toNat [])).take 0 ++ [(.sl 1 (ae .i64) 0 l)] ++ (ac (s.chans.getD n.toNat [])).drop (0 + 1)) = (s.chans.set n.toNat l).map ac)∧TT 3 (s.procs.map aV = ((ec s n.toNat l).procs).map aV∧(s.chans.set n.toNat l).map ac = ((ec s n.toNat l).chans).map ac∧True))))) (.w 1 [(2,.app false 28 1 ac [] ([] : List (List Int))),(5,.app false 28 1 ac [] s.chans)] <| .w 2 [(5,.box 28 1 ac [] (s.chans.set n.toNat l))] <| .e) Tryz.func56 rfl rfl rfl (by kernel_rfl) ?_
 refine tt ⟨oK,tt ⟨⟨by simp only [List.length_map,List.length_cons,List.length_nil,List.length_append,List.length_drop,List.length_take]; first | omega | (simp; first | done | omega),by simp only [List.map_append,List.map_nil,List.append_nil,List.nil_append]⟩,tt ⟨ix,⟨⟨om,by simp only [List.map_set]; rfl⟩,tt ⟨(congrArg _ (?_ : s.procs = ((ec s n.toNat l).procs))),(congrArg _ (?_ : (s.chans.set n.toNat l) = ((ec s n.toNat l).chans))),oK⟩⟩⟩⟩⟩
 all_goals (rfl)
abbrev JZ (c : Ci) (s : Ns) (n : Int) (ws : List Int) : Ct := ⟨37,[(.agg (rA c)),(.agg (ue s)),(.agg [(i6 n),(LI ws)])],true,(.agg [(dL 2 aV a7 (((aA c s n ws).1).procs)),(dL 1 ac [] (((aA c s n ws).1).chans)),(LI ([] : List Int)),(i6 ((aA c s n ws).2))])⟩
theorem yZ (c : Ci) (s : Ns) (n : Int) (ws : List Int) (hc : bC c) (hs : b8 c s) (hsm : gw s 4294967296) (hw : ws.length ≤ 4294967296) : CC (JZ c s n ws) := by
 have hnl := hc.nl
 have hcl := hc.cl
 have hl1 := hs.pl
 have hl2 := hs.cl
 refine af.vc (V := TT 4 (CS (n < 0) (TT 3 ((True∧(decide (n < 0)) = true)∧TT 8 ((((aA c s n ws).1).procs) = []∧(((aA c s n ws).1).chans) = []∧([] : List Int) = []∧(1 : Int) = ((aA c s n ws).2)∧True))) (CS (n ≥ (c.chans.length : Int)) (TT 3 ((True∧(decide (n < 0)) = false)∧TT 7 ((True∧(decide (n ≥ (c.chans.length : Int))) = true)∧TT 6 ((((aA c s n ws).1).procs) = []∧(((aA c s n ws).1).chans) = []∧([] : List Int) = []∧(1 : Int) = ((aA c s n ws).2)∧True)))) (CS (((c.chans.getD n.toNat bi).frm) = (-1)) (TT 3 ((True∧(decide (n < 0)) = false)∧TT 7 ((True∧(decide (n ≥ (c.chans.length : Int))) = false)∧TT 4 (IX n c.chans.length∧TT 4 ((True∧(!decide (((c.chans.getD n.toNat bi).frm) = (-1))) = false)∧TT 6 (IX n c.chans.length∧TT 2 (CC (Lo ws ((c.chans.getD n.toNat bi).w))∧TT 2 (CB (!(fN ws ((c.chans.getD n.toNat bi).w))) (TT 3 ((((aA c s n ws).1).procs) = []∧(((aA c s n ws).1).chans) = []∧([] : List Int) = []∧(1 : Int) = ((aA c s n ws).2)∧True)) (TT 3 (am [] (([] : List Int).map (ae .i64))∧TT 4 (IX n s.chans.length∧TT 1 ((([] : List Int).length + ((s.chans.getD n.toNat []).map (ae .i64)).length ≤ 137438953472∧([] : List Int).map (ae .i64) ++ (s.chans.getD n.toNat []).map (ae .i64) = (s.chans.getD n.toNat []).map (ae .i64))∧TT 2 (((s.chans.getD n.toNat []).length + (ws.map (ae .i64)).length ≤ 137438953472∧(s.chans.getD n.toNat []).map (ae .i64) ++ ws.map (ae .i64) = ((s.chans.getD n.toNat []) ++ ws).map (ae .i64))∧CC (JY s n ((s.chans.getD n.toNat []) ++ ws))∧TT 3 (((ec s n.toNat ((s.chans.getD n.toNat []) ++ ws)).procs).map aV = (((aA c s n ws).1).procs).map aV∧((ec s n.toNat ((s.chans.getD n.toNat []) ++ ws)).chans).map ac = (((aA c s n ws).1).chans).map ac∧([] : List Int) = []∧(0 : Int) = ((aA c s n ws).2)∧True)))))))))))))) (TT 3 ((True∧(decide (n < 0)) = false)∧TT 7 ((True∧(decide (n ≥ (c.chans.length : Int))) = false)∧TT 4 (IX n c.chans.length∧TT 4 ((True∧(!decide (((c.chans.getD n.toNat bi).frm) = (-1))) = true)∧TT 4 ((((aA c s n ws).1).procs) = []∧(((aA c s n ws).1).chans) = []∧([] : List Int) = []∧(1 : Int) = ((aA c s n ws).2)∧True)))))))))) (.s 1 (n < 0) (.w 1 [(3,.val (dB true))] <| .e) (.s 1 (n ≥ (c.chans.length : Int)) (.w 1 [(3,.val (dB false)),(11,.val (dB true))] <| .e) (.s 1 (((c.chans.getD n.toNat bi).frm) = (-1)) (.w 1 [(3,.val (dB false)),(11,.val (dB false)),(21,.val (dB false)),(31,(Lo ws ((c.chans.getD n.toNat bi).w)).O)] <| .b 40 (.e) (.w 3 [(3,.app false 3 1 (ae .i64) 0 ([] : List Int)),(10,.app false 3 1 (ae .i64) 0 (s.chans.getD n.toNat [])),(13,.app true 3 1 (ae .i64) 0 ((s.chans.getD n.toNat []) ++ ws)),(14,(JY s n ((s.chans.getD n.toNat []) ++ ws)).O)] <| .e)) (.w 1 [(3,.val (dB false)),(11,.val (dB false)),(21,.val (dB true))] <| .e)))) Tryz.func37 rfl rfl rfl (by kernel_rfl) ?_
 refine tt ⟨fun hs0 => ?_,fun hs0 => ?_⟩
 · refine tt ⟨(vT hs0),tt ⟨?_,?_,?_,?_,oK⟩⟩
   all_goals (all_goals (first | rfl | (rw [df (fQ (by omega))]) | (rw [df (fR (by omega))]) | (rw [df (li (by show ¬(c.chans.getD n.toNat bi).frm = -1; omega))]) | (rw [e9 (by simpa using hc40)]) | (rw [gJ (lj (by omega) (by omega) (show (c.chans.getD n.toNat bi).frm = -1 by omega)) (by simpa using hc40)])))
 · refine ⟨fun hs1 => ?_,fun hs1 => ?_⟩
   · refine tt ⟨(vF hs0),tt ⟨(vT hs1),tt ⟨?_,?_,?_,?_,oK⟩⟩⟩
     all_goals (all_goals (first | rfl | (rw [df (fQ (by omega))]) | (rw [df (fR (by omega))]) | (rw [df (li (by show ¬(c.chans.getD n.toNat bi).frm = -1; omega))]) | (rw [e9 (by simpa using hc40)]) | (rw [gJ (lj (by omega) (by omega) (show (c.chans.getD n.toNat bi).frm = -1 by omega)) (by simpa using hc40)])))
   · refine ⟨fun hs2 => ?_,fun hs2 => ?_⟩
     · refine tt ⟨(vF hs0),tt ⟨(vF hs1),tt ⟨ix,tt ⟨(nF hs2),tt ⟨ix,tt ⟨(Au ws ((c.chans.getD n.toNat bi).w) (by omega)),tt ⟨fun hc40 => ?_,fun hc40 => ?_⟩⟩⟩⟩⟩⟩⟩
       · refine tt ⟨?_,?_,?_,?_,oK⟩
         all_goals (all_goals (first | rfl | (rw [df (fQ (by omega))]) | (rw [df (fR (by omega))]) | (rw [df (li (by show ¬(c.chans.getD n.toNat bi).frm = -1; omega))]) | (rw [e9 (by simpa using hc40)]) | (rw [gJ (lj (by omega) (by omega) (show (c.chans.getD n.toNat bi).frm = -1 by omega)) (by simpa using hc40)])))
       · have hlw : (s.chans.getD n.toNat []).length ≤ 4294967296 := hsm n.toNat
         refine tt ⟨oK,tt ⟨ix,tt ⟨⟨by simp only [List.length_map,List.length_cons,List.length_nil,List.length_append,List.length_drop,List.length_take]; first | omega | (simp; first | done | omega),by simp only [List.map_append,List.map_nil,List.append_nil,List.nil_append]⟩,tt ⟨⟨by simp only [List.length_map,List.length_cons,List.length_nil,List.length_append,List.length_drop,List.length_take]; first | omega | (simp; first | done | omega),by simp only [List.map_append,List.map_nil,List.append_nil,List.nil_append]⟩,⟨(BX s n ((s.chans.getD n.toNat []) ++ ws) om om om),tt ⟨(congrArg _ (?_ : ((ec s n.toNat ((s.chans.getD n.toNat []) ++ ws)).procs) = (((aA c s n ws).1).procs))),(congrArg _ (?_ : ((ec s n.toNat ((s.chans.getD n.toNat []) ++ ws)).chans) = (((aA c s n ws).1).chans))),?_,?_,oK⟩⟩⟩⟩⟩⟩
         all_goals (all_goals (first | rfl | (rw [df (fQ (by omega))]) | (rw [df (fR (by omega))]) | (rw [df (li (by show ¬(c.chans.getD n.toNat bi).frm = -1; omega))]) | (rw [e9 (by simpa using hc40)]) | (rw [gJ (lj (by omega) (by omega) (show (c.chans.getD n.toNat bi).frm = -1 by omega)) (by simpa using hc40)])))
     · refine tt ⟨(vF hs0),tt ⟨(vF hs1),tt ⟨ix,tt ⟨(nT hs2),tt ⟨?_,?_,?_,?_,oK⟩⟩⟩⟩⟩
       all_goals (all_goals (first | rfl | (rw [df (fQ (by omega))]) | (rw [df (fR (by omega))]) | (rw [df (li (by show ¬(c.chans.getD n.toNat bi).frm = -1; omega))]) | (rw [e9 (by simpa using hc40)]) | (rw [gJ (lj (by omega) (by omega) (show (c.chans.getD n.toNat bi).frm = -1 by omega)) (by simpa using hc40)])))
abbrev Lr (c : Ci) (s : Ns) (p : Nat) : Ct := ⟨96,[(.agg (rA c)),(.agg (ue s)),(i6 (p : Int))],true,(.agg [(dL 2 bI aO (cy c s p)),(LB (cT c s p))])⟩
abbrev lq (c : Ci) (s : Ns) (p : Nat) : Lp (Nat) := f6 [2,3,4,6,7,8] 5 (fun (i : Nat) => ⟨[(2,(i6 (p : Int))),(3,(.ptr 0 0 0 0)),(4,(.ptr 1 0 0 0)),(6,(.ptr 2 0 0 0)),(7,(.ptr 3 0 0 0)),(8,(i6 (i : Int)))],[(.var 38 (rA c)),(.var 42 (ue s)),(.var 196 [.nils,.nils]),(.var 196 [(.own 4),.nils]),(.arr 182 2 bI aO (tab (bR c s p) i))]⟩) (fun (i : Nat) => i ≤ (c.procs.getD p au).takes.length) (fun (i : Nat) => (c.procs.getD p au).takes.length - i)
abbrev lr (c : Ci) (s : Ns) (p : Nat) (i : Nat) : Lp (Nat) := f6 [2,3,4,6,7,11] 6 (fun (m : Nat) => ⟨[(2,(i6 (p : Int))),(3,(.ptr 0 0 0 0)),(4,(.ptr 1 0 0 0)),(6,(.ptr 2 0 0 0)),(7,(.ptr 3 0 0 0)),(11,(i6 (m : Int)))],[(.var 38 (rA c)),(.var 42 (ue s)),(.var 196 [.nils,.nils]),(.var 196 [(.own 4),(.own 5)]),(.arr 182 2 bI aO (tab (bR c s p) i)),(.arr 4 1 aF false (tab (bS c s p) m))]⟩) (fun (m : Nat) => m ≤ (c.procs.getD p au).puts.length) (fun (m : Nat) => (c.procs.getD p au).puts.length - m)
theorem Fy (c : Ci) (s : Ns) (p : Nat) (hc : bC c) (hs : b8 c s) (hp : p < c.procs.length) : CC (Lr c s p) := by
 have hnl := hc.nl
 have hcl := hc.cl
 have hpk : gv (c.procs.getD p au) := hc.pr p hp
 have hl1 := hs.pl
 have hl2 := hs.cl
 have ht1 : (c.procs.getD p au).takes.length ≤ 100 := hpk.tl
 have ht2 : (c.procs.getD p au).puts.length ≤ 100 := hpk.pl
 refine af.vc (V := TT 7 (GO (lq c s p) 0 (∀ i,(lq c s p).inv i → TT 4 (IX (p : Int) c.procs.length∧TT 4 (CD ((i : Int) < ((((c.procs.getD p au).takes).length : Nat) : Int)) (TT 5 (IX (p : Int) c.procs.length∧TT 3 (IX (i : Int) (((c.procs.getD p au).takes).length)∧TT 2 (IX ((((c.procs.getD p au).takes).getD i bB).chan) s.chans.length∧TT 8 (CD ((((s.chans.getD (((((c.procs.getD p au).takes).getD i bB).chan).toNat) []).length : Nat) : Int) > 0) (TT 1 (IX 0 ((s.chans.getD (((((c.procs.getD p au).takes).getD i bB).chan).toNat) []).length)∧TT 6 (am [[(dB true),(i6 ((s.chans.getD (((((c.procs.getD p au).takes).getD i bB).chan).toNat) []).getD 0 0))]] ([(⟨true,((s.chans.getD (((((c.procs.getD p au).takes).getD i bB).chan).toNat) []).getD 0 0)⟩ : Hd)].map bI)∧((tab (bR c s p) i).length + ([(⟨true,((s.chans.getD (((((c.procs.getD p au).takes).getD i bB).chan).toNat) []).getD 0 0)⟩ : Hd)].map bI).length ≤ 137438953472∧(tab (bR c s p) i).map bI ++ [(⟨true,((s.chans.getD (((((c.procs.getD p au).takes).getD i bB).chan).toNat) []).getD 0 0)⟩ : Hd)].map bI = (tab (bR c s p) (i + 1)).map bI)∧TT 3 (W6 ((i + 1 : Nat) : Int)∧TT 1 (AG (lq c s p) i (i + 1)))))) (TT 3 (am [[(dB false),(i6 0)]] ([(⟨false,0⟩ : Hd)].map bI)∧((tab (bR c s p) i).length + ([(⟨false,0⟩ : Hd)].map bI).length ≤ 137438953472∧(tab (bR c s p) i).map bI ++ [(⟨false,0⟩ : Hd)].map bI = (tab (bR c s p) (i + 1)).map bI)∧TT 3 (W6 ((i + 1 : Nat) : Int)∧TT 1 (AG (lq c s p) i (i + 1)))))))))) (TT 1 (GO (lr c s p i) 0 (∀ m,(lr c s p i).inv m → TT 4 (IX (p : Int) c.procs.length∧TT 4 (CD ((m : Int) < ((((c.procs.getD p au).puts).length : Nat) : Int)) (TT 3 (IX (p : Int) c.procs.length∧TT 3 (IX (m : Int) (((c.procs.getD p au).puts).length)∧TT 3 (CS (((c.chans.getD (((((c.procs.getD p au).puts).getD m bf).chan).toNat) bi).dst) = (-1)) (TT 5 (IX ((((c.procs.getD p au).puts).getD m bf).chan) c.chans.length∧TT 3 ((True∧(decide (((c.chans.getD (((((c.procs.getD p au).puts).getD m bf).chan).toNat) bi).dst) = (-1))) = true)∧TT 1 (am [[(dB true)]] ([true].map aF)∧((tab (bS c s p) m).length + ([true].map aF).length ≤ 137438953472∧(tab (bS c s p) m).map aF ++ [true].map aF = (tab (bS c s p) (m + 1)).map aF)∧TT 3 (W6 ((m + 1 : Nat) : Int)∧TT 1 (AG (lr c s p i) m (m + 1))))))) (TT 5 (IX ((((c.procs.getD p au).puts).getD m bf).chan) c.chans.length∧TT 3 ((True∧(decide (((c.chans.getD (((((c.procs.getD p au).puts).getD m bf).chan).toNat) bi).dst) = (-1))) = false)∧TT 3 (IX ((((c.procs.getD p au).puts).getD m bf).chan) s.chans.length∧TT 5 (IX ((((c.procs.getD p au).puts).getD m bf).chan) c.chans.length∧TT 4 (am [[(dB (decide ((((s.chans.getD (((((c.procs.getD p au).puts).getD m bf).chan).toNat) []).length : Nat) : Int) < ((c.chans.getD (((((c.procs.getD p au).puts).getD m bf).chan).toNat) bi).cap))))]] ([decide ((((s.chans.getD (((((c.procs.getD p au).puts).getD m bf).chan).toNat) []).length : Nat) : Int) < ((c.chans.getD (((((c.procs.getD p au).puts).getD m bf).chan).toNat) bi).cap))].map aF)∧((tab (bS c s p) m).length + ([decide ((((s.chans.getD (((((c.procs.getD p au).puts).getD m bf).chan).toNat) []).length : Nat) : Int) < ((c.chans.getD (((((c.procs.getD p au).puts).getD m bf).chan).toNat) bi).cap))].map aF).length ≤ 137438953472∧(tab (bS c s p) m).map aF ++ [decide ((((s.chans.getD (((((c.procs.getD p au).puts).getD m bf).chan).toNat) []).length : Nat) : Int) < ((c.chans.getD (((((c.procs.getD p au).puts).getD m bf).chan).toNat) bi).cap))].map aF = (tab (bS c s p) (m + 1)).map aF)∧TT 3 (W6 ((m + 1 : Nat) : Int)∧TT 1 (AG (lr c s p i) m (m + 1))))))))))))) (TT 3 ((tab (bR c s p) i).map bI = (cy c s p).map bI∧(tab (bS c s p) m).map aF = (cT c s p).map aF∧True)))))))))))) (.g 2 3 0 182 2 bI aO <| .l (lq c s p) 0 (fun i => .b 22 (.b 42 (.w 9 [(3,.box 182 2 bI aO [(⟨true,((s.chans.getD (((((c.procs.getD p au).takes).getD i bB).chan).toNat) []).getD 0 0)⟩ : Hd)]),(4,.box 182 2 bI aO (tab (bR c s p) (i + 1)))] <| .w 4 [(1,.val (i6 ((i + 1 : Nat) : Int)))] <| .e) (.w 9 [(3,.box 182 2 bI aO [(⟨false,0⟩ : Hd)]),(4,.box 182 2 bI aO (tab (bR c s p) (i + 1)))] <| .w 4 [(1,.val (i6 ((i + 1 : Nat) : Int)))] <| .e)) (.g 10 3 1 4 1 aF false <| .l (lr c s p i) 0 (fun m => .b 61 (.s 14 (((c.chans.getD (((((c.procs.getD p au).puts).getD m bf).chan).toNat) bi).dst) = (-1)) (.w 14 [(9,.val (dB true)),(24,.box 4 1 aF false [true]),(25,.box 4 1 aF false (tab (bS c s p) (m + 1)))] <| .w 12 [(1,.val (i6 ((m + 1 : Nat) : Int)))] <| .e) (.w 14 [(9,.val (dB false)),(24,.box 4 1 aF false [decide ((((s.chans.getD (((((c.procs.getD p au).puts).getD m bf).chan).toNat) []).length : Nat) : Int) < ((c.chans.getD (((((c.procs.getD p au).puts).getD m bf).chan).toNat) bi).cap))]),(25,.box 4 1 aF false (tab (bS c s p) (m + 1)))] <| .w 12 [(1,.val (i6 ((m + 1 : Nat) : Int)))] <| .e)) (.e))))) Tryz.func96 rfl rfl rfl (by kernel_rfl) ?_
 refine tt ⟨rfl,(by omega),?_⟩
 intro i hinv
 have hi := hinv
 refine tt ⟨ix,tt (cd (fun hc22 => ?_) (fun hc22 => ?_))⟩
 · have htk : 0 ≤ ((c.procs.getD p au).takes.getD i bB).chan∧((c.procs.getD p au).takes.getD i bB).chan < c.chans.length := ⟨(hc.tk p hp i (show i < (c.procs.getD p au).takes.length by omega)).1,(hc.tk p hp i (show i < (c.procs.getD p au).takes.length by omega)).2.1⟩
   refine tt ⟨ix,tt ⟨ix,tt ⟨ix,tt (cd (fun hc42 => ?_) (fun hc42 => ?_))⟩⟩⟩
   · refine tt ⟨ix,tt ⟨⟨⟨rfl,rfl,oK⟩,oK⟩,⟨(bh (by omega) (by first | exact (if_pos (show 0 < (s.chans.getD ((c.procs.getD p au).takes.getD i bB).chan.toNat []).length by omega)).symm | exact (if_neg (show ¬0 < (s.chans.getD ((c.procs.getD p au).takes.getD i bB).chan.toNat []).length by omega)).symm)),tt ⟨w6,tt ⟨(i + 1),rfl,(?_ : (i + 1) ≤ (c.procs.getD p au).takes.length),(?_ : (c.procs.getD p au).takes.length - (i + 1) < (c.procs.getD p au).takes.length - i)⟩⟩⟩⟩⟩
     · omega
     · omega
   · refine tt ⟨⟨⟨rfl,rfl,oK⟩,oK⟩,⟨(bh (by omega) (by first | exact (if_pos (show 0 < (s.chans.getD ((c.procs.getD p au).takes.getD i bB).chan.toNat []).length by omega)).symm | exact (if_neg (show ¬0 < (s.chans.getD ((c.procs.getD p au).takes.getD i bB).chan.toNat []).length by omega)).symm)),tt ⟨w6,tt ⟨(i + 1),rfl,(?_ : (i + 1) ≤ (c.procs.getD p au).takes.length),(?_ : (c.procs.getD p au).takes.length - (i + 1) < (c.procs.getD p au).takes.length - i)⟩⟩⟩⟩
     · omega
     · omega
 · refine tt ⟨rfl,(by omega),?_⟩
   intro m hinv
   have hm := hinv
   refine tt ⟨ix,tt (cd (fun hc61 => ?_) (fun hc61 => ?_))⟩
   · have hpt : 0 ≤ ((c.procs.getD p au).puts.getD m bf).chan∧((c.procs.getD p au).puts.getD m bf).chan < c.chans.length := ⟨(hc.pt p hp m (show m < (c.procs.getD p au).puts.length by omega)).1,(hc.pt p hp m (show m < (c.procs.getD p au).puts.length by omega)).2.1⟩
     refine tt ⟨ix,tt ⟨ix,tt ⟨fun hs0 => ?_,fun hs0 => ?_⟩⟩⟩
     · refine tt ⟨ix,tt ⟨(vT hs0),tt ⟨⟨⟨rfl,oK⟩,oK⟩,⟨(bh (by omega) (by first | exact (xm hs0).symm | exact (kW hs0).symm | exact (kW hs1).symm)),tt ⟨w6,tt ⟨(m + 1),rfl,(?_ : (m + 1) ≤ (c.procs.getD p au).puts.length),(?_ : (c.procs.getD p au).puts.length - (m + 1) < (c.procs.getD p au).puts.length - m)⟩⟩⟩⟩⟩⟩
       · omega
       · omega
     · refine tt ⟨ix,tt ⟨(vF hs0),tt ⟨ix,tt ⟨ix,tt ⟨⟨⟨rfl,oK⟩,oK⟩,⟨(bh (by omega) (by first | exact (xm hs0).symm | exact (kW hs0).symm | exact (kW hs1).symm)),tt ⟨w6,tt ⟨(m + 1),rfl,(?_ : (m + 1) ≤ (c.procs.getD p au).puts.length),(?_ : (c.procs.getD p au).puts.length - (m + 1) < (c.procs.getD p au).puts.length - m)⟩⟩⟩⟩⟩⟩⟩⟩
       · omega
       · omega
   · refine tt ⟨(congrArg _ (?_ : (tab (bR c s p) i) = (cy c s p))),(congrArg _ (?_ : (tab (bS c s p) m) = (cT c s p))),oK⟩
     · rw [show i = (c.procs.getD p au).takes.length by omega]; rfl
     · rw [show m = (c.procs.getD p au).puts.length by omega]; rfl
abbrev J0 (c : Ci) (s : Ns) (p : Nat) : Ct := ⟨82,[(.agg (rA c)),(.agg (ue s)),(i6 (p : Int))],true,(.agg [(dB ((ab c s p).fires)),(LI (((ab c s p).s).regs)),(dL 1 ac [] (((ab c s p).s).mems)),(LB ((ab c s p).pops)),(dL 2 bI aO ((ab c s p).puts))])⟩
theorem v7 (c : Ci) (s : Ns) (p : Nat) (hc : bC c) (hs : b8 c s) (hp : p < c.procs.length) : CC (J0 c s p) := by
 have hnl := hc.nl
 have hcl := hc.cl
 have hpk : gv (c.procs.getD p au) := hc.pr p hp
 have hl1 := hs.pl
 have hl2 := hs.cl
 have ht1 : (c.procs.getD p au).takes.length ≤ 100 := hpk.tl
 have ht2 : (c.procs.getD p au).puts.length ≤ 100 := hpk.pl
 refine af.vc (V := TT 6 (IX (p : Int) c.procs.length∧TT 4 (IX (p : Int) s.procs.length∧TT 4 (CC (Lr c s p)∧CC (Lm (c.procs.getD p au) (s.procs.getD p a7) (cy c s p) (cT c s p))∧TT 2 (((aJ (c.procs.getD p au) (s.procs.getD p a7) (cy c s p) (cT c s p)).fires) = ((ab c s p).fires)∧(((aJ (c.procs.getD p au) (s.procs.getD p a7) (cy c s p) (cT c s p)).s).regs).map (ae .i64) = (((ab c s p).s).regs).map (ae .i64)∧(((aJ (c.procs.getD p au) (s.procs.getD p a7) (cy c s p) (cT c s p)).s).mems).map ac = (((ab c s p).s).mems).map ac∧((aJ (c.procs.getD p au) (s.procs.getD p a7) (cy c s p) (cT c s p)).pops).map aF = ((ab c s p).pops).map aF∧((aJ (c.procs.getD p au) (s.procs.getD p a7) (cy c s p) (cT c s p)).puts).map bI = ((ab c s p).puts).map bI∧True))))) (.w 1 [(13,(Lr c s p).O),(14,(Lm (c.procs.getD p au) (s.procs.getD p a7) (cy c s p) (cT c s p)).O)] <| .e) Tryz.func82 rfl rfl rfl (by kernel_rfl) ?_
 refine tt ⟨ix,tt ⟨ix,tt ⟨(Fy c s p hc hs hp),⟨(Dh (c.procs.getD p au) (s.procs.getD p a7) (cy c s p) (cT c s p) hpk (hs.pv p hp) (o7 hc hs hp) (by rw [cT,aQ])),tt ⟨?_,(congrArg _ (?_ : (((aJ (c.procs.getD p au) (s.procs.getD p a7) (cy c s p) (cT c s p)).s).regs) = (((ab c s p).s).regs))),(congrArg _ (?_ : (((aJ (c.procs.getD p au) (s.procs.getD p a7) (cy c s p) (cT c s p)).s).mems) = (((ab c s p).s).mems))),(congrArg _ (?_ : ((aJ (c.procs.getD p au) (s.procs.getD p a7) (cy c s p) (cT c s p)).pops) = ((ab c s p).pops))),(congrArg _ (?_ : ((aJ (c.procs.getD p au) (s.procs.getD p a7) (cy c s p) (cT c s p)).puts) = ((ab c s p).puts))),oK⟩⟩⟩⟩⟩
 all_goals (rfl)
abbrev Ls (c : Ci) (s : Ns) (p : Int) : Ct := ⟨69,[(.agg (rA c)),(.agg (ue s)),(i6 p)],false,(dB (hJ c s p))⟩
theorem G6 (c : Ci) (s : Ns) (p : Int) (hc : bC c) (hs : b8 c s) : CC (Ls c s p) := by
 have hnl := hc.nl
 have hcl := hc.cl
 refine af.vc (V := TT 3 (CS (p ≥ 0) (CS (p < (c.procs.length : Int)) (TT 2 ((True∧(decide (p ≥ 0)) = true)∧TT 6 ((True∧(decide (p < (c.procs.length : Int))) = true)∧TT 2 ((True∧p = (p.toNat : Int))∧CC (J0 c s p.toNat)∧TT 4 (((ab c s p.toNat).fires) = (hJ c s p)∧True))))) (TT 2 ((True∧(decide (p ≥ 0)) = true)∧TT 6 ((True∧(decide (p < (c.procs.length : Int))) = false)∧TT 8 (false = (hJ c s p)∧True))))) (TT 2 ((True∧(decide (p ≥ 0)) = false)∧TT 15 (false = (hJ c s p)∧True))))) (.s 1 (p ≥ 0) (.s 1 (p < (c.procs.length : Int)) (.w 1 [(2,.val (dB true)),(9,.val (dB true)),(12,.val (i6 (p.toNat : Int))),(13,(J0 c s p.toNat).O)] <| .e) (.w 1 [(2,.val (dB true)),(9,.val (dB false))] <| .e)) (.w 1 [(2,.val (dB false))] <| .e)) Tryz.func69 rfl rfl rfl (by kernel_rfl) ?_
 refine tt ⟨fun hs0 => ?_,fun hs0 => ?_⟩
 · refine ⟨fun hs1 => ?_,fun hs1 => ?_⟩
   · refine tt ⟨(vT hs0),tt ⟨(vT hs1),tt ⟨⟨oK,(by omega)⟩,⟨(v7 c s p.toNat hc hs (by omega)),tt ⟨?_,oK⟩⟩⟩⟩⟩
     first | exact (tM (by omega)).symm | exact (tN (by omega)).symm | exact (r9 (by omega) (by omega)).symm
   · refine tt ⟨(vT hs0),tt ⟨(vF hs1),tt ⟨?_,oK⟩⟩⟩
     first | exact (tM (by omega)).symm | exact (tN (by omega)).symm | exact (r9 (by omega) (by omega)).symm
 · refine tt ⟨(vF hs0),tt ⟨?_,oK⟩⟩
   first | exact (tM (by omega)).symm | exact (tN (by omega)).symm | exact (r9 (by omega) (by omega)).symm
abbrev IK (a b : Ns) : Ct := ⟨34,[(.agg [(dL 2 aV a7 a.procs),(dL 1 ac [] a.chans)]),(.agg [(dL 2 aV a7 b.procs),(dL 1 ac [] b.chans)])],false,(dB (bP a b))⟩
abbrev mc (a : Ns) (b : Ns) : Lp (Nat) := f6 [2,3,5] 2 (fun (i : Nat) => ⟨[(2,(.ptr 0 0 0 0)),(3,(.ptr 1 0 0 0)),(5,(i6 (i : Int)))],[(.var 42 [(dL 2 aV a7 a.procs),(dL 1 ac [] a.chans)]),(.var 42 [(dL 2 aV a7 b.procs),(dL 1 ac [] b.chans)])]⟩) (fun (i : Nat) => i ≤ a.procs.length∧∀ z,z < i → dq (a.procs.getD z a7) (b.procs.getD z a7) = true) (fun (i : Nat) => a.procs.length - i)
abbrev md (a : Ns) (b : Ns) : Lp (Nat) := f6 [2,3,6] 2 (fun (n : Nat) => ⟨[(2,(.ptr 0 0 0 0)),(3,(.ptr 1 0 0 0)),(6,(i6 (n : Int)))],[(.var 42 [(dL 2 aV a7 a.procs),(dL 1 ac [] a.chans)]),(.var 42 [(dL 2 aV a7 b.procs),(dL 1 ac [] b.chans)])]⟩) (fun (n : Nat) => n ≤ a.chans.length∧∀ z,z < n → a.chans.getD z [] = b.chans.getD z []) (fun (n : Nat) => a.chans.length - n)
theorem qI (a b : Ns) (hz : BP a) : CC (IK a b) := by
 obtain ⟨hap,hac,hcb,hpa,hpb,hpc⟩ := hz
 refine af.vc (V := TT 3 (CS ((a.procs.length : Int) = (b.procs.length : Int)) (TT 7 ((True∧(!decide ((a.procs.length : Int) = (b.procs.length : Int))) = false)∧TT 8 (CN ((a.chans.length : Int) = (b.chans.length : Int)) (TT 2 (false = (bP a b)∧True)) (TT 1 (GO (mc a b) 0 (∀ i,(mc a b).inv i → TT 5 (CD ((i : Int) < (a.procs.length : Int)) (TT 3 (IX (i : Int) a.procs.length∧TT 4 (IX (i : Int) b.procs.length∧TT 1 (CC (Ln (a.procs.getD i a7) (b.procs.getD i a7))∧TT 1 (CB (!(dq (a.procs.getD i a7) (b.procs.getD i a7))) (TT 2 (false = (bP a b)∧True)) (TT 1 (W6 ((i + 1 : Nat) : Int)∧TT 1 (AG (mc a b) i (i + 1))))))))) (TT 1 (GO (md a b) 0 (∀ n,(md a b).inv n → TT 5 (CD ((n : Int) < (a.chans.length : Int)) (TT 3 (IX (n : Int) a.chans.length∧TT 4 (IX (n : Int) b.chans.length∧TT 1 (CC (G5 (a.chans.getD n []) (b.chans.getD n []))∧TT 1 (CN ((a.chans.getD n []) = (b.chans.getD n [])) (TT 2 (false = (bP a b)∧True)) (TT 1 (W6 ((n + 1 : Nat) : Int)∧TT 1 (AG (md a b) n (n + 1))))))))) (TT 2 (true = (bP a b)∧True))))))))))))) (TT 7 ((True∧(!decide ((a.procs.length : Int) = (b.procs.length : Int))) = true)∧TT 10 (false = (bP a b)∧True))))) (.s 1 ((a.procs.length : Int) = (b.procs.length : Int)) (.w 1 [(7,.val (dB false))] <| .b 22 (.e) (.l (mc a b) 0 (fun i => .b 27 (.w 6 [(10,(Ln (a.procs.getD i a7) (b.procs.getD i a7)).O)] <| .b 41 (.e) (.w 5 [(1,.val (i6 ((i + 1 : Nat) : Int)))] <| .e)) (.l (md a b) 0 (fun n => .b 46 (.w 11 [(10,(G5 (a.chans.getD n []) (b.chans.getD n [])).O)] <| .b 60 (.e) (.w 10 [(1,.val (i6 ((n + 1 : Nat) : Int)))] <| .e)) (.e)))))) (.w 1 [(7,.val (dB true))] <| .e)) Tryz.func34 rfl rfl rfl (by kernel_rfl) ?_
 refine tt ⟨fun hs0 => ?_,fun hs0 => ?_⟩
 · refine tt ⟨(nF hs0),tt (cn (fun hc22 => ?_) (fun hc22 => ?_))⟩
   · refine tt ⟨?_,oK⟩
     first | exact (ia (by omega)).symm | exact (ib (by omega)).symm | exact (ic (i := i) (by omega) (by simpa using hc41)).symm | exact (ie (n := n) (by simpa using hc60)).symm | exact (ig (by omega) (by omega) (fun z hz => h3 z (by omega)) (fun z hz => h4 z (by omega))).symm
   · refine tt ⟨rfl,⟨by omega,fun z hz => by omega⟩,?_⟩
     intro i hinv
     obtain ⟨hi,h3⟩ := hinv
     refine tt (cd (fun hc27 => ?_) (fun hc27 => ?_))
     · refine tt ⟨ix,tt ⟨ix,tt ⟨(Di (a.procs.getD i a7) (b.procs.getD i a7) (by have := hpa i; omega) (by have := hpb i; omega) (fun j => by have := hpc i j; omega)),tt ⟨fun hc41 => ?_,fun hc41 => ?_⟩⟩⟩⟩
       · refine tt ⟨?_,oK⟩
         first | exact (ia (by omega)).symm | exact (ib (by omega)).symm | exact (ic (i := i) (by omega) (by simpa using hc41)).symm | exact (ie (n := n) (by simpa using hc60)).symm | exact (ig (by omega) (by omega) (fun z hz => h3 z (by omega)) (fun z hz => h4 z (by omega))).symm
       · refine tt ⟨w6,tt ⟨(i + 1),rfl,?_,(?_ : a.procs.length - (i + 1) < a.procs.length - i)⟩⟩
         · exact ⟨by omega,bH h3 (by simpa using hc41)⟩
         · omega
     · refine tt ⟨rfl,⟨by omega,fun z hz => by omega⟩,?_⟩
       intro n hinv
       obtain ⟨hn,h4⟩ := hinv
       refine tt (cd (fun hc46 => ?_) (fun hc46 => ?_))
       · refine tt ⟨ix,tt ⟨ix,tt ⟨(ss (a.chans.getD n []) (b.chans.getD n []) (by have := hcb n; omega)),tt (cn (fun hc60 => ?_) (fun hc60 => ?_))⟩⟩⟩
         · refine tt ⟨?_,oK⟩
           first | exact (ia (by omega)).symm | exact (ib (by omega)).symm | exact (ic (i := i) (by omega) (by simpa using hc41)).symm | exact (ie (n := n) (by simpa using hc60)).symm | exact (ig (by omega) (by omega) (fun z hz => h3 z (by omega)) (fun z hz => h4 z (by omega))).symm
         · refine tt ⟨w6,tt ⟨(n + 1),rfl,?_,(?_ : a.chans.length - (n + 1) < a.chans.length - n)⟩⟩
           · exact ⟨by omega,bH h4 (by simpa using hc60)⟩
           · omega
       · refine tt ⟨?_,oK⟩
         first | exact (ia (by omega)).symm | exact (ib (by omega)).symm | exact (ic (i := i) (by omega) (by simpa using hc41)).symm | exact (ie (n := n) (by simpa using hc60)).symm | exact (ig (by omega) (by omega) (fun z hz => h3 z (by omega)) (fun z hz => h4 z (by omega))).symm
 · refine tt ⟨(nT hs0),tt ⟨?_,oK⟩⟩
   first | exact (ia (by omega)).symm | exact (ib (by omega)).symm | exact (ic (i := i) (by omega) (by simpa using hc41)).symm | exact (ie (n := n) (by simpa using hc60)).symm | exact (ig (by omega) (by omega) (fun z hz => h3 z (by omega)) (fun z hz => h4 z (by omega))).symm
end Go.Proofs.YtgmpoenfoacofaaGreat
