/-
  The laws of networks: what they ask.
-/
import Derived.Test.YtifoecfajmnjjaaGreatQNeP
import Derived.Test.YtifoecfajmnjjaaGreatQNeQ
namespace Go.Proofs.YtifoecfajmnjjaaGreat
open Go.RowKit
set_option linter.unusedVariables false
set_option linter.unusedSimpArgs false
abbrev uo (c : Ci) : D := (.agg [(dL 6 eG ao c.procs),(dL 5 iv a9 c.chans)])
abbrev xA (s : Ns) : D := (.agg [(dL 2 bc bg s.procs),(dL 1 ac [] s.chans)])
set_option maxRecDepth 100000
abbrev H5 (n : Int) (l : List Int) : Ct := ⟨40,[(i6 n),(LY l)],true,(LI (bq l n.toNat))⟩
abbrev px (n : Int) (l : List Int) : Lp (Nat) := ga [0,1,5,6] 1 (fun (i : Nat) => ⟨[(0,(i6 n)),(1,(LY l)),(5,(LI (bq l i))),(6,(i6 (i : Int)))],[.dead]⟩) (fun (i : Nat) => (i : Int) ≤ n) (fun (i : Nat) => n.toNat - i)
theorem AH (n : Int) (l : List Int) (h0 : 0 ≤ n) (h1 : n ≤ 1000) (hl8 : kz l) : CC (H5 n l) := by
 refine ai.vc (V := TT 1 (am [] ((bq l 0).map (af .i64))∧TT 2 (GO (px n l) 0 (∀ i,(px n l).inv i → TT 3 (CD ((i : Int) < n) (TT 5 (CD ((i : Int) < (l.length : Int)) (TT 2 (IX (i : Int) l.length∧TT 1 (W6 (l.getD i 0)∧TT 1 (W6 ((i + 1 : Nat) : Int)∧(((i + 1 : Nat) : Int) ≠ 0∧(Int.tmod (l.getD i 0) ((i + 1 : Nat) : Int)) = (l.getD i 0 % ((i : Int) + 1)))∧TT 1 (am [] (([] : List Int).map (af .i64))∧TT 2 ((0 ≤ (0 : Int)∧(0 : Int) ≤ l.getD i 0 % ((i : Int) + 1)∧l.getD i 0 % ((i : Int) + 1) ≤ ((bq l i).length : Int))∧(([] : List Int).length + ((((bq l i).take ((l.getD i 0 % ((i : Int) + 1)).toNat)).drop 0).map (af .i64)).length ≤ 137438953472∧([] : List Int).map (af .i64) ++ (((bq l i).take ((l.getD i 0 % ((i : Int) + 1)).toNat)).drop 0).map (af .i64) = (((bq l i).take ((l.getD i 0 % ((i : Int) + 1)).toNat)).drop 0).map (af .i64))∧TT 1 (am [[(i6 (i : Int))]] ([(i : Int)].map (af .i64))∧((((bq l i).take ((l.getD i 0 % ((i : Int) + 1)).toNat)).drop 0).length + ([(i : Int)].map (af .i64)).length ≤ 137438953472∧(((bq l i).take ((l.getD i 0 % ((i : Int) + 1)).toNat)).drop 0).map (af .i64) ++ [(i : Int)].map (af .i64) = ((((bq l i).take ((l.getD i 0 % ((i : Int) + 1)).toNat)).drop 0) ++ [(i : Int)]).map (af .i64))∧TT 2 ((0 ≤ l.getD i 0 % ((i : Int) + 1)∧l.getD i 0 % ((i : Int) + 1) ≤ ((bq l i).length : Int)∧((bq l i).length : Int) ≤ ((bq l i).length : Int))∧(((((bq l i).take ((l.getD i 0 % ((i : Int) + 1)).toNat)).drop 0) ++ [(i : Int)]).length + (((bq l i).drop ((l.getD i 0 % ((i : Int) + 1)).toNat)).map (af .i64)).length ≤ 137438953472∧((((bq l i).take ((l.getD i 0 % ((i : Int) + 1)).toNat)).drop 0) ++ [(i : Int)]).map (af .i64) ++ ((bq l i).drop ((l.getD i 0 % ((i : Int) + 1)).toNat)).map (af .i64) = (bq l (i + 1)).map (af .i64))∧TT 2 (W6 ((i + 1 : Nat) : Int)∧TT 1 (AG (px n l) i (i + 1))))))))))) (am [] (([] : List Int).map (af .i64))∧TT 2 ((0 ≤ (0 : Int)∧(0 : Int) ≤ (0 : Int)∧(0 : Int) ≤ ((bq l i).length : Int))∧(([] : List Int).length + ((((bq l i).take 0).drop 0).map (af .i64)).length ≤ 137438953472∧([] : List Int).map (af .i64) ++ (((bq l i).take 0).drop 0).map (af .i64) = (((bq l i).take 0).drop 0).map (af .i64))∧TT 1 (am [[(i6 (i : Int))]] ([(i : Int)].map (af .i64))∧((((bq l i).take 0).drop 0).length + ([(i : Int)].map (af .i64)).length ≤ 137438953472∧(((bq l i).take 0).drop 0).map (af .i64) ++ [(i : Int)].map (af .i64) = ((((bq l i).take 0).drop 0) ++ [(i : Int)]).map (af .i64))∧TT 2 ((0 ≤ (0 : Int)∧(0 : Int) ≤ ((bq l i).length : Int)∧((bq l i).length : Int) ≤ ((bq l i).length : Int))∧(((((bq l i).take 0).drop 0) ++ [(i : Int)]).length + (((bq l i).drop 0).map (af .i64)).length ≤ 137438953472∧((((bq l i).take 0).drop 0) ++ [(i : Int)]).map (af .i64) ++ ((bq l i).drop 0).map (af .i64) = (bq l (i + 1)).map (af .i64))∧TT 2 (W6 ((i + 1 : Nat) : Int)∧TT 1 (AG (px n l) i (i + 1))))))))) (TT 3 ((bq l i).map (af .i64) = (bq l n.toNat).map (af .i64)))))))) (.w 1 [(0,.frz 3 1 (af .i64) 0 (bq l 0))] <| .l (px n l) 0 (fun i => .b 11 (.b 17 (.w 7 [(4,.val (i6 (l.getD i 0))),(6,.val (i6 ((i + 1 : Nat) : Int))),(7,.val (i6 (l.getD i 0 % ((i : Int) + 1))))] <| .w 8 [(0,.app false 3 1 (af .i64) 0 ([] : List Int)),(4,.app false 3 1 (af .i64) 0 (((bq l i).take ((l.getD i 0 % ((i : Int) + 1)).toNat)).drop 0)),(6,.box 3 1 (af .i64) 0 [(i : Int)]),(7,.app false 3 1 (af .i64) 0 ((((bq l i).take ((l.getD i 0 % ((i : Int) + 1)).toNat)).drop 0) ++ [(i : Int)])),(11,.box 3 1 (af .i64) 0 (bq l (i + 1)))] <| .f 4 8 <| .w 4 [(1,.val (i6 ((i + 1 : Nat) : Int)))] <| .e) (.w 8 [(0,.app false 3 1 (af .i64) 0 ([] : List Int)),(4,.app false 3 1 (af .i64) 0 (((bq l i).take 0).drop 0)),(6,.box 3 1 (af .i64) 0 [(i : Int)]),(7,.app false 3 1 (af .i64) 0 ((((bq l i).take 0).drop 0) ++ [(i : Int)])),(11,.box 3 1 (af .i64) 0 (bq l (i + 1)))] <| .f 4 8 <| .w 4 [(1,.val (i6 ((i + 1 : Nat) : Int)))] <| .e)) (.e))) Tryz.func40 rfl rfl rfl (by kernel_rfl) ?_
 refine tt ⟨oK,tt ⟨rfl,(by omega),?_⟩⟩
 intro i hinv
 have hi := hinv
 have hyi := dQ hl8 i
 have hsl := vY l i
 refine tt (cd (fun hc11 => ?_) (fun hc11 => ?_))
 · refine tt (cd (fun hc17 => ?_) (fun hc17 => ?_))
   · refine tt ⟨ix,tt ⟨w6,tt ⟨w6,⟨⟨om,(Int.tmod_eq_emod_of_nonneg (by omega))⟩,tt ?_⟩⟩⟩⟩
     have hmo := AE (l.getD i 0) (show (0 : Int) < (i : Int) + 1 by omega)
     refine ⟨oK,tt ⟨om,⟨⟨by simp only [List.length_map,List.length_cons,List.length_nil,List.length_append,List.length_drop,List.length_take]; first | omega | (simp; first | done | omega),by simp only [List.map_append,List.map_nil,List.append_nil,List.nil_append]⟩,tt ⟨⟨⟨rfl,oK⟩,oK⟩,⟨⟨by simp only [List.length_map,List.length_cons,List.length_nil,List.length_append,List.length_drop,List.length_take]; first | omega | (simp; first | done | omega),by simp only [List.map_append,List.map_nil,List.append_nil,List.nil_append]⟩,tt ⟨om,⟨⟨by simp only [List.length_map,List.length_append,List.length_take,List.length_drop,List.length_cons,List.length_nil]; omega,by first | (rw [H3 (by omega)]; simp only [List.map_append,List.drop_zero]; done) | (rw [H4 (by omega)]; simp only [List.map_append,List.drop_zero]; done)⟩,tt ⟨w6,tt ⟨(i + 1),rfl,(?_ : ((i + 1) : Int) ≤ n),(?_ : n.toNat - (i + 1) < n.toNat - i)⟩⟩⟩⟩⟩⟩⟩⟩⟩
     · omega
     · omega
   · have hmo := AE (l.getD i 0) (show (0 : Int) < (i : Int) + 1 by omega)
     refine ⟨oK,tt ⟨om,⟨⟨by simp only [List.length_map,List.length_cons,List.length_nil,List.length_append,List.length_drop,List.length_take]; first | omega | (simp; first | done | omega),by simp only [List.map_append,List.map_nil,List.append_nil,List.nil_append]⟩,tt ⟨⟨⟨rfl,oK⟩,oK⟩,⟨⟨by simp only [List.length_map,List.length_cons,List.length_nil,List.length_append,List.length_drop,List.length_take]; first | omega | (simp; first | done | omega),by simp only [List.map_append,List.map_nil,List.append_nil,List.nil_append]⟩,tt ⟨om,⟨⟨by simp only [List.length_map,List.length_append,List.length_take,List.length_drop,List.length_cons,List.length_nil]; omega,by first | (rw [H3 (by omega)]; simp only [List.map_append,List.drop_zero]; done) | (rw [H4 (by omega)]; simp only [List.map_append,List.drop_zero]; done)⟩,tt ⟨w6,tt ⟨(i + 1),rfl,(?_ : ((i + 1) : Int) ≤ n),(?_ : n.toNat - (i + 1) < n.toNat - i)⟩⟩⟩⟩⟩⟩⟩⟩⟩
     · omega
     · omega
 · refine tt (congrArg _ (?_ : (bq l i) = (bq l n.toNat)))
   rw [show i = n.toNat by omega]
abbrev H6 (c : Ci) (s : Ns) (n : Int) (ws : List Int) : Ct := ⟨23,[(uo c),(xA s),(.agg [(i6 n),(LI ws)])],true,(.agg [(dL 2 bc bg (((aF c s n ws).1).procs)),(dL 1 ac [] (((aF c s n ws).1).chans)),(LI ([] : List Int)),(i6 ((aF c s n ws).2))])⟩
theorem Ej (c : Ci) (s : Ns) (n : Int) (ws : List Int) (hc : bM c) (hs : cr c s) (hsm : i7 s 4294967296) (hw : ws.length ≤ 4294967296) : CC (H6 c s n ws) := by
 refine ai.vc (V := TT 10 (CC (Jq c s n ws)∧TT 11 ((((aF c s n ws).1).procs).map bc = (((aF c s n ws).1).procs).map bc∧(((aF c s n ws).1).chans).map ac = (((aF c s n ws).1).chans).map ac∧([] : List Int) = []∧((aF c s n ws).2) = ((aF c s n ws).2)∧True))) (.w 1 [(6,(Jq c s n ws).O)] <| .e) Tryz.func23 rfl rfl rfl (by kernel_rfl) ?_
 refine tt ⟨(DL c s n ws hc hs hsm om),tt ⟨rfl,rfl,?_,rfl,oK⟩⟩
 rfl
abbrev JQ (c : Ci) (s : Ns) (n : Int) : Ct := ⟨24,[(uo c),(xA s),(i6 n)],true,(.agg [(dL 2 bc bg (((ca c s n).2.1).procs)),(dL 1 ac [] (((ca c s n).2.1).chans)),(LI ((ca c s n).1)),(i6 ((ca c s n).2.2))])⟩
theorem vZ (c : Ci) (s : Ns) (n : Int) (hc : bM c) (hs : cr c s) (hsm : i7 s 4294967296) : CC (JQ c s n) := by
 refine ai.vc (V := TT 6 (CC (Jr c s n)∧TT 14 ((((ca c s n).2.1).procs).map bc = (((ca c s n).2.1).procs).map bc∧(((ca c s n).2.1).chans).map ac = (((ca c s n).2.1).chans).map ac∧((ca c s n).1).map (af .i64) = ((ca c s n).1).map (af .i64)∧((ca c s n).2.2) = ((ca c s n).2.2)∧True))) (.w 1 [(3,(Jr c s n).O)] <| .e) Tryz.func24 rfl rfl rfl (by kernel_rfl) ?_
 exact tt ⟨(DP c s n hc hs hsm),tt ⟨rfl,rfl,rfl,rfl,oK⟩⟩
abbrev H7 (c : Ci) (s : Ns) (k : Int) : Ct := ⟨19,[(uo c),(xA s),(i6 k)],true,(.agg [(dL 2 bc bg ((aA c s (cN k)).procs)),(dL 1 ac [] ((aA c s (cN k)).chans)),(dB (cM c s k))])⟩
theorem xB (c : Ci) (s : Ns) (k : Int) (hc : bM c) (hs : cr c s) (hsm : i7 s 4294967296) : CC (H7 c s k) := by
 refine ai.vc (V := TT 6 (CC (HQ c s k)∧TT 11 (((aA c s (cN k)).procs).map bc = ((aA c s (cN k)).procs).map bc∧((aA c s (cN k)).chans).map ac = ((aA c s (cN k)).chans).map ac∧(xf c s k) = (cM c s k)∧True))) (.w 1 [(3,(HQ c s k).O)] <| .e) Tryz.func19 rfl rfl rfl (by kernel_rfl) ?_
 refine tt ⟨(xi c s k hc hs hsm),tt ⟨rfl,rfl,?_,oK⟩⟩
 exact DB _ _ _
abbrev Ek (c : Ci) (s : Ns) (cl : ByteArray) : Ct := ⟨13,[(uo c),(xA s),(dS cl)],true,(.agg [(dL 2 bc bg ((aA c s (aI c cl)).procs)),(dL 1 ac [] ((aA c s (aI c cl)).chans)),(LB (ap (aq c s (aI c cl)) c.procs.length))])⟩
theorem jx (c : Ci) (s : Ns) (cl : ByteArray) (hc : bM c) (hs : cr c s) (hsm : i7 s 4294967296) : CC (Ek c s cl) := by
 refine ai.vc (V := TT 6 (CC (HR c s cl)∧TT 11 (((aA c s (aI c cl)).procs).map bc = ((aA c s (aI c cl)).procs).map bc∧((aA c s (aI c cl)).chans).map ac = ((aA c s (aI c cl)).chans).map ac∧(ap (aq c s (aI c cl)) c.procs.length).map aK = (ap (aq c s (aI c cl)) c.procs.length).map aK∧True))) (.w 1 [(3,(HR c s cl).O)] <| .e) Tryz.func13 rfl rfl rfl (by kernel_rfl) ?_
 exact tt ⟨(xj c s cl hc hs hsm),tt ⟨rfl,rfl,rfl,oK⟩⟩
abbrev H8 (c : Ci) (s : Ns) (bt : Int) : Ct := ⟨31,[(uo c),(xA s),(i6 bt)],true,(.agg [(dL 2 bc bg (((b8 c s bt).1).procs)),(dL 1 ac [] (((b8 c s bt).1).chans)),(LI ((b8 c s bt).2.1)),(i6 ((b8 c s bt).2.2))])⟩
theorem sW (c : Ci) (s : Ns) (bt : Int) (hc : bM c) (hs : cr c s) (hsm : i7 s 1000000000) (hb : bt ≤ 1000000) (hb2 : -9223372036854775808 ≤ bt) : CC (H8 c s bt) := by
 refine ai.vc (V := TT 6 (CC (Js c s bt)∧TT 14 ((((b8 c s bt).1).procs).map bc = (((b8 c s bt).1).procs).map bc∧(((b8 c s bt).1).chans).map ac = (((b8 c s bt).1).chans).map ac∧((b8 c s bt).2.1).map (af .i64) = ((b8 c s bt).2.1).map (af .i64)∧((b8 c s bt).2.2) = ((b8 c s bt).2.2)∧True))) (.w 1 [(3,(Js c s bt).O)] <| .e) Tryz.func31 rfl rfl rfl (by kernel_rfl) ?_
 exact tt ⟨(y3 c s bt hc hs hsm om om),tt ⟨rfl,rfl,rfl,rfl,oK⟩⟩
abbrev JR (c : Ci) (sh : Int) (b bb l : List Int) : Ct := ⟨12,[(.agg [(dI .u8 sh),(LY b),(LY bb),(LY l)]),(uo c)],true,(.agg [(dL 2 bc bg ((aB c bb l).procs)),(dL 1 ac [] ((aB c bb l).chans))])⟩
theorem El (c : Ci) (sh : Int) (b bb l : List Int) (hc : bM c) (hbo : kz bb) (hlo : kz l) : CC (JR c sh b bb l) := by
 have hbk := BR hc hbo
 have hmn := FP l
 refine ai.vc (V := TT 7 (CC (JO c bb)∧TT 5 ((True∧(xV (l.length : Int) 20) = (((min l.length 20) : Nat) : Int))∧((0 ≤ (0 : Int)∧(0 : Int) ≤ (((min l.length 20) : Nat) : Int)∧(((min l.length 20) : Nat) : Int) ≤ (l.length : Int))∧((l.take (min l.length 20)).drop 0).map (af .u8) = (l.take (min l.length 20)).map (af .u8))∧CC (JP c (dZ c bb) (l.take (min l.length 20)))∧TT 2 (((d4 c (dZ c bb) (l.take (min l.length 20))).procs).map bc = ((aB c bb l).procs).map bc∧((d4 c (dZ c bb) (l.take (min l.length 20))).chans).map ac = ((aB c bb l).chans).map ac∧True)))) (.w 1 [(4,(JO c bb).O),(10,.val (i6 (((min l.length 20) : Nat) : Int))),(11,.val (LY (l.take (min l.length 20)))),(12,(JP c (dZ c bb) (l.take (min l.length 20))).O)] <| .e) Tryz.func12 rfl rfl rfl (by kernel_rfl) ?_
 refine tt ⟨(Ec c bb hc hbo),tt ⟨⟨oK,(FP l)⟩,⟨⟨om,rfl⟩,⟨(BQ c (dZ c bb) (l.take (min l.length 20)) hc hbk.1 hbk.2 (by rw [List.length_take]; omega) (Ee hlo)),tt ⟨(congrArg _ (?_ : ((d4 c (dZ c bb) (l.take (min l.length 20))).procs) = ((aB c bb l).procs))),(congrArg _ (?_ : ((d4 c (dZ c bb) (l.take (min l.length 20))).chans) = ((aB c bb l).chans))),oK⟩⟩⟩⟩⟩
 all_goals (rfl)
end Go.Proofs.YtifoecfajmnjjaaGreat
