/-
  The laws of networks: what they ask.
-/
import Derived.Test.YtifoecfajmnjjaaGreatQNeP
import Derived.Test.YtifoecfajmnjjaaGreatQNeQ
namespace Go.Proofs.YtifoecfajmnjjaaGreat
open Go.RowKit
set_option linter.unusedVariables false
set_option linter.unusedSimpArgs false
abbrev yE (c : Ci) : D := (.agg [(dL 6 ga ay c.procs),(dL 5 jy ba c.chans)])
abbrev BL (s : Ns) : D := (.agg [(dL 2 be aU s.procs),(dL 1 af [] s.chans)])
set_option maxRecDepth 100000
abbrev Nf (n : Int) (l : List Int) : Ct := ⟨40,[(i6 n),(LY l)],true,(LI (bP l n.toNat))⟩
abbrev sS (n : Int) (l : List Int) : Lp (Nat) := fX [0,1,5,6] 1 (fun (i : Nat) => ⟨[(0,(i6 n)),(1,(LY l)),(5,(LI (bP l i))),(6,(i6 (i : Int)))],[.dead]⟩) (fun (i : Nat) => (i : Int) ≤ n) (fun (i : Nat) => n.toNat - i)
theorem Fl (n : Int) (l : List Int) (h0 : 0 ≤ n) (h1 : n ≤ 1000) (hl8 : iz l) : CC (Nf n l) := by
 refine an.vc (V := TT 1 (aq [] ((bP l 0).map (ah .i64))∧TT 2 (GO (sS n l) 0 (∀ i,(sS n l).inv i → TT 3 (CD ((i : Int) < n) (TT 5 (CD ((i : Int) < (l.length : Int)) (TT 2 (IX (i : Int) l.length∧TT 1 (W6 (l.getD i 0)∧TT 1 (W6 ((i + 1 : Nat) : Int)∧(((i + 1 : Nat) : Int) ≠ 0∧(Int.tmod (l.getD i 0) ((i + 1 : Nat) : Int)) = (l.getD i 0 % ((i : Int) + 1)))∧TT 1 (aq [] (([] : List Int).map (ah .i64))∧TT 2 ((0 ≤ (0 : Int)∧(0 : Int) ≤ l.getD i 0 % ((i : Int) + 1)∧l.getD i 0 % ((i : Int) + 1) ≤ ((bP l i).length : Int))∧(([] : List Int).length + ((((bP l i).take ((l.getD i 0 % ((i : Int) + 1)).toNat)).drop 0).map (ah .i64)).length ≤ 137438953472∧([] : List Int).map (ah .i64) ++ (((bP l i).take ((l.getD i 0 % ((i : Int) + 1)).toNat)).drop 0).map (ah .i64) = (((bP l i).take ((l.getD i 0 % ((i : Int) + 1)).toNat)).drop 0).map (ah .i64))∧TT 1 (aq [[(i6 (i : Int))]] ([(i : Int)].map (ah .i64))∧((((bP l i).take ((l.getD i 0 % ((i : Int) + 1)).toNat)).drop 0).length + ([(i : Int)].map (ah .i64)).length ≤ 137438953472∧(((bP l i).take ((l.getD i 0 % ((i : Int) + 1)).toNat)).drop 0).map (ah .i64) ++ [(i : Int)].map (ah .i64) = ((((bP l i).take ((l.getD i 0 % ((i : Int) + 1)).toNat)).drop 0) ++ [(i : Int)]).map (ah .i64))∧TT 2 ((0 ≤ l.getD i 0 % ((i : Int) + 1)∧l.getD i 0 % ((i : Int) + 1) ≤ ((bP l i).length : Int)∧((bP l i).length : Int) ≤ ((bP l i).length : Int))∧(((((bP l i).take ((l.getD i 0 % ((i : Int) + 1)).toNat)).drop 0) ++ [(i : Int)]).length + (((bP l i).drop ((l.getD i 0 % ((i : Int) + 1)).toNat)).map (ah .i64)).length ≤ 137438953472∧((((bP l i).take ((l.getD i 0 % ((i : Int) + 1)).toNat)).drop 0) ++ [(i : Int)]).map (ah .i64) ++ ((bP l i).drop ((l.getD i 0 % ((i : Int) + 1)).toNat)).map (ah .i64) = (bP l (i + 1)).map (ah .i64))∧TT 2 (W6 ((i + 1 : Nat) : Int)∧TT 1 (AG (sS n l) i (i + 1))))))))))) (aq [] (([] : List Int).map (ah .i64))∧TT 2 ((0 ≤ (0 : Int)∧(0 : Int) ≤ (0 : Int)∧(0 : Int) ≤ ((bP l i).length : Int))∧(([] : List Int).length + ((((bP l i).take 0).drop 0).map (ah .i64)).length ≤ 137438953472∧([] : List Int).map (ah .i64) ++ (((bP l i).take 0).drop 0).map (ah .i64) = (((bP l i).take 0).drop 0).map (ah .i64))∧TT 1 (aq [[(i6 (i : Int))]] ([(i : Int)].map (ah .i64))∧((((bP l i).take 0).drop 0).length + ([(i : Int)].map (ah .i64)).length ≤ 137438953472∧(((bP l i).take 0).drop 0).map (ah .i64) ++ [(i : Int)].map (ah .i64) = ((((bP l i).take 0).drop 0) ++ [(i : Int)]).map (ah .i64))∧TT 2 ((0 ≤ (0 : Int)∧(0 : Int) ≤ ((bP l i).length : Int)∧((bP l i).length : Int) ≤ ((bP l i).length : Int))∧(((((bP l i).take 0).drop 0) ++ [(i : Int)]).length + (((bP l i).drop 0).map (ah .i64)).length ≤ 137438953472∧((((bP l i).take 0).drop 0) ++ [(i : Int)]).map (ah .i64) ++ ((bP l i).drop 0).map (ah .i64) = (bP l (i + 1)).map (ah .i64))∧TT 2 (W6 ((i + 1 : Nat) : Int)∧TT 1 (AG (sS n l) i (i + 1))))))))) (TT 3 ((bP l i).map (ah .i64) = (bP l n.toNat).map (ah .i64)))))))) (.w 1 [(0,.frz 3 1 (ah .i64) 0 (bP l 0))] <| .l (sS n l) 0 (fun i => .b 11 (.b 17 (.w 7 [(4,.val (i6 (l.getD i 0))),(6,.val (i6 ((i + 1 : Nat) : Int))),(7,.val (i6 (l.getD i 0 % ((i : Int) + 1))))] <| .w 8 [(0,.app false 3 1 (ah .i64) 0 ([] : List Int)),(4,.app false 3 1 (ah .i64) 0 (((bP l i).take ((l.getD i 0 % ((i : Int) + 1)).toNat)).drop 0)),(6,.box 3 1 (ah .i64) 0 [(i : Int)]),(7,.app false 3 1 (ah .i64) 0 ((((bP l i).take ((l.getD i 0 % ((i : Int) + 1)).toNat)).drop 0) ++ [(i : Int)])),(11,.box 3 1 (ah .i64) 0 (bP l (i + 1)))] <| .f 4 8 <| .w 4 [(1,.val (i6 ((i + 1 : Nat) : Int)))] <| .e) (.w 8 [(0,.app false 3 1 (ah .i64) 0 ([] : List Int)),(4,.app false 3 1 (ah .i64) 0 (((bP l i).take 0).drop 0)),(6,.box 3 1 (ah .i64) 0 [(i : Int)]),(7,.app false 3 1 (ah .i64) 0 ((((bP l i).take 0).drop 0) ++ [(i : Int)])),(11,.box 3 1 (ah .i64) 0 (bP l (i + 1)))] <| .f 4 8 <| .w 4 [(1,.val (i6 ((i + 1 : Nat) : Int)))] <| .e)) (.e))) Tryz.func40 rfl rfl rfl (by kernel_rfl) ?_
 refine tt ⟨oK,tt ⟨rfl,(by omega),?_⟩⟩
 intro i hinv
 have hi := hinv
 have hyi := eL hl8 i
 have hsl := Af l i
 refine tt (cd (fun hc11 => ?_) (fun hc11 => ?_))
 · refine tt (cd (fun hc17 => ?_) (fun hc17 => ?_))
   · refine tt ⟨ix,tt ⟨w6,tt ⟨w6,⟨⟨om,(Int.tmod_eq_emod_of_nonneg (by omega))⟩,tt ?_⟩⟩⟩⟩
     have hmo := Fj (l.getD i 0) (show (0 : Int) < (i : Int) + 1 by omega)
     refine ⟨oK,tt ⟨om,⟨⟨by simp only [List.length_map,List.length_cons,List.length_nil,List.length_append,List.length_drop,List.length_take]; first | omega | (simp; first | done | omega),by simp only [List.map_append,List.map_nil,List.append_nil,List.nil_append]⟩,tt ⟨⟨⟨rfl,oK⟩,oK⟩,⟨⟨by simp only [List.length_map,List.length_cons,List.length_nil,List.length_append,List.length_drop,List.length_take]; first | omega | (simp; first | done | omega),by simp only [List.map_append,List.map_nil,List.append_nil,List.nil_append]⟩,tt ⟨om,⟨⟨by simp only [List.length_map,List.length_append,List.length_take,List.length_drop,List.length_cons,List.length_nil]; omega,by first | (rw [Nc (by omega)]; simp only [List.map_append,List.drop_zero]; done) | (rw [Nd (by omega)]; simp only [List.map_append,List.drop_zero]; done)⟩,tt ⟨w6,tt ⟨(i + 1),rfl,(?_ : ((i + 1) : Int) ≤ n),(?_ : n.toNat - (i + 1) < n.toNat - i)⟩⟩⟩⟩⟩⟩⟩⟩⟩
     · omega
     · omega
   · have hmo := Fj (l.getD i 0) (show (0 : Int) < (i : Int) + 1 by omega)
     refine ⟨oK,tt ⟨om,⟨⟨by simp only [List.length_map,List.length_cons,List.length_nil,List.length_append,List.length_drop,List.length_take]; first | omega | (simp; first | done | omega),by simp only [List.map_append,List.map_nil,List.append_nil,List.nil_append]⟩,tt ⟨⟨⟨rfl,oK⟩,oK⟩,⟨⟨by simp only [List.length_map,List.length_cons,List.length_nil,List.length_append,List.length_drop,List.length_take]; first | omega | (simp; first | done | omega),by simp only [List.map_append,List.map_nil,List.append_nil,List.nil_append]⟩,tt ⟨om,⟨⟨by simp only [List.length_map,List.length_append,List.length_take,List.length_drop,List.length_cons,List.length_nil]; omega,by first | (rw [Nc (by omega)]; simp only [List.map_append,List.drop_zero]; done) | (rw [Nd (by omega)]; simp only [List.map_append,List.drop_zero]; done)⟩,tt ⟨w6,tt ⟨(i + 1),rfl,(?_ : ((i + 1) : Int) ≤ n),(?_ : n.toNat - (i + 1) < n.toNat - i)⟩⟩⟩⟩⟩⟩⟩⟩⟩
     · omega
     · omega
 · refine tt (congrArg _ (?_ : (bP l i) = (bP l n.toNat)))
   rw [show i = n.toNat by omega]
abbrev yF (c : Ci) (s : Ns) (n : Int) (ws : List Int) : Ct := ⟨23,[(yE c),(BL s),(.agg [(i6 n),(LI ws)])],true,(.agg [(dL 2 be aU (((am c s n ws).1).procs)),(dL 1 af [] (((am c s n ws).1).chans)),(LI ([] : List Int)),(i6 ((am c s n ws).2))])⟩
theorem nA (c : Ci) (s : Ns) (n : Int) (ws : List Int) (hc : bo c) (hs : bN c s) (hsm : fY s 4294967296) (hw : ws.length ≤ 4294967296) : CC (yF c s n ws) := by
 refine an.vc (V := TT 10 (CC (Ow c s n ws)∧TT 11 ((((am c s n ws).1).procs).map be = (((am c s n ws).1).procs).map be∧(((am c s n ws).1).chans).map af = (((am c s n ws).1).chans).map af∧([] : List Int) = []∧((am c s n ws).2) = ((am c s n ws).2)∧True))) (.w 1 [(6,(Ow c s n ws).O)] <| .e) Tryz.func23 rfl rfl rfl (by kernel_rfl) ?_
 refine tt ⟨(Ir c s n ws hc hs hsm om),tt ⟨rfl,rfl,?_,rfl,oK⟩⟩
 rfl
abbrev I4 (c : Ci) (s : Ns) (n : Int) : Ct := ⟨24,[(yE c),(BL s),(i6 n)],true,(.agg [(dL 2 be aU (((aF c s n).2.1).procs)),(dL 1 af [] (((aF c s n).2.1).chans)),(LI ((aF c s n).1)),(i6 ((aF c s n).2.2))])⟩
theorem ir (c : Ci) (s : Ns) (n : Int) (hc : bo c) (hs : bN c s) (hsm : fY s 4294967296) : CC (I4 c s n) := by
 refine an.vc (V := TT 6 (CC (Ox c s n)∧TT 14 ((((aF c s n).2.1).procs).map be = (((aF c s n).2.1).procs).map be∧(((aF c s n).2.1).chans).map af = (((aF c s n).2.1).chans).map af∧((aF c s n).1).map (ah .i64) = ((aF c s n).1).map (ah .i64)∧((aF c s n).2.2) = ((aF c s n).2.2)∧True))) (.w 1 [(3,(Ox c s n).O)] <| .e) Tryz.func24 rfl rfl rfl (by kernel_rfl) ?_
 exact tt ⟨(Iv c s n hc hs hsm),tt ⟨rfl,rfl,rfl,rfl,oK⟩⟩
abbrev xz (c : Ci) (s : Ns) (k : Int) : Ct := ⟨19,[(yE c),(BL s),(i6 k)],true,(.agg [(dL 2 be aU ((ak c s (bz k)).procs)),(dL 1 af [] ((ak c s (bz k)).chans)),(dB (bp c s k))])⟩
theorem gt (c : Ci) (s : Ns) (k : Int) (hc : bo c) (hs : bN c s) (hsm : fY s 4294967296) : CC (xz c s k) := by
 refine an.vc (V := TT 6 (CC (MX c s k)∧TT 11 (((ak c s (bz k)).procs).map be = ((ak c s (bz k)).procs).map be∧((ak c s (bz k)).chans).map af = ((ak c s (bz k)).chans).map af∧(Bo c s k) = (bp c s k)∧True))) (.w 1 [(3,(MX c s k).O)] <| .e) Tryz.func19 rfl rfl rfl (by kernel_rfl) ?_
 refine tt ⟨(Bs c s k hc hs hsm),tt ⟨rfl,rfl,?_,oK⟩⟩
 exact Ij _ _ _
abbrev Ah (c : Ci) (s : Ns) (cl : ByteArray) : Ct := ⟨13,[(yE c),(BL s),(dS cl)],true,(.agg [(dL 2 be aU ((ak c s (aj c cl)).procs)),(dL 1 af [] ((ak c s (aj c cl)).chans)),(LB (ao (ai c s (aj c cl)) c.procs.length))])⟩
theorem fU (c : Ci) (s : Ns) (cl : ByteArray) (hc : bo c) (hs : bN c s) (hsm : fY s 4294967296) : CC (Ah c s cl) := by
 refine an.vc (V := TT 6 (CC (MY c s cl)∧TT 11 (((ak c s (aj c cl)).procs).map be = ((ak c s (aj c cl)).procs).map be∧((ak c s (aj c cl)).chans).map af = ((ak c s (aj c cl)).chans).map af∧(ao (ai c s (aj c cl)) c.procs.length).map aR = (ao (ai c s (aj c cl)) c.procs.length).map aR∧True))) (.w 1 [(3,(MY c s cl).O)] <| .e) Tryz.func13 rfl rfl rfl (by kernel_rfl) ?_
 exact tt ⟨(Bt c s cl hc hs hsm),tt ⟨rfl,rfl,rfl,oK⟩⟩
abbrev uo (c : Ci) (s : Ns) (bt : Int) : Ct := ⟨31,[(yE c),(BL s),(i6 bt)],true,(.agg [(dL 2 be aU (((aD c s bt).1).procs)),(dL 1 af [] (((aD c s bt).1).chans)),(LI ((aD c s bt).2.1)),(i6 ((aD c s bt).2.2))])⟩
theorem cU (c : Ci) (s : Ns) (bt : Int) (hc : bo c) (hs : bN c s) (hsm : fY s 1000000000) (hb : bt ≤ 1000000) (hb2 : -9223372036854775808 ≤ bt) : CC (uo c s bt) := by
 refine an.vc (V := TT 6 (CC (Oy c s bt)∧TT 14 ((((aD c s bt).1).procs).map be = (((aD c s bt).1).procs).map be∧(((aD c s bt).1).chans).map af = (((aD c s bt).1).chans).map af∧((aD c s bt).2.1).map (ah .i64) = ((aD c s bt).2.1).map (ah .i64)∧((aD c s bt).2.2) = ((aD c s bt).2.2)∧True))) (.w 1 [(3,(Oy c s bt).O)] <| .e) Tryz.func31 rfl rfl rfl (by kernel_rfl) ?_
 exact tt ⟨(Dv c s bt hc hs hsm om om),tt ⟨rfl,rfl,rfl,rfl,oK⟩⟩
abbrev GE (a b : Ns) (la lb : List Int) (ea eb : Int) : Ct := ⟨28,[(.agg [(dL 2 be aU a.procs),(dL 1 af [] a.chans),(LI la),(i6 ea)]),(.agg [(dL 2 be aU b.procs),(dL 1 af [] b.chans),(LI lb),(i6 eb)])],false,(dB (dR a b la lb ea eb))⟩
theorem iW (a b : Ns) (la lb : List Int) (ea eb : Int) (hz : EX a) (hl : la.length ≤ 9223372036854775807) : CC (GE a b la lb ea eb) := by
 refine an.vc (V := TT 3 (CS (ea = eb) (CS (la = lb) (TT 5 ((True∧(decide (ea = eb)) = true)∧TT 4 (CC (qt la lb)∧TT 1 ((True∧(decide (la = lb)) = true)∧TT 4 (CC (jt a b)∧TT 3 ((bB a b) = (dR a b la lb ea eb)∧True)))))) (TT 5 ((True∧(decide (ea = eb)) = true)∧TT 4 (CC (qt la lb)∧TT 1 ((True∧(decide (la = lb)) = false)∧TT 8 (false = (dR a b la lb ea eb)∧True)))))) (TT 5 ((True∧(decide (ea = eb)) = false)∧TT 15 (false = (dR a b la lb ea eb)∧True))))) (.s 1 (ea = eb) (.s 1 (la = lb) (.w 1 [(5,.val (dB true)),(10,(qt la lb).O),(12,.val (dB true)),(17,(jt a b).O)] <| .e) (.w 1 [(5,.val (dB true)),(10,(qt la lb).O),(12,.val (dB false))] <| .e)) (.w 1 [(5,.val (dB false))] <| .e)) Tryz.func28 rfl rfl rfl (by kernel_rfl) ?_
 refine tt ⟨fun hs0 => ?_,fun hs0 => ?_⟩
 · refine ⟨fun hs1 => ?_,fun hs1 => ?_⟩
   · refine tt ⟨(vT hs0),tt ⟨(ex la lb hl),tt ⟨(vT hs1),tt ⟨(bH a b hz),tt ⟨?_,oK⟩⟩⟩⟩⟩
     first | (rw [GB hs0]) | (rw [uV hs0 hs1]) | (rw [un hs0 hs1]) | (rw [un hs0 (by simpa using hs1)]) | (rw [uV hs0 (by simpa using hs1)])
   · refine tt ⟨(vT hs0),tt ⟨(ex la lb hl),tt ⟨(vF hs1),tt ⟨?_,oK⟩⟩⟩⟩
     first | (rw [GB hs0]) | (rw [uV hs0 hs1]) | (rw [un hs0 hs1]) | (rw [un hs0 (by simpa using hs1)]) | (rw [uV hs0 (by simpa using hs1)])
 · refine tt ⟨(vF hs0),tt ⟨?_,oK⟩⟩
   first | (rw [GB hs0]) | (rw [uV hs0 hs1]) | (rw [un hs0 hs1]) | (rw [un hs0 (by simpa using hs1)]) | (rw [uV hs0 (by simpa using hs1)])
abbrev Ng (a b : Ns) (la lb : List Int) (ea eb : Int) : Ct := ⟨30,[(.agg [(dL 2 be aU a.procs),(dL 1 af [] a.chans),(LI la),(i6 ea)]),(.agg [(dL 2 be aU b.procs),(dL 1 af [] b.chans),(LI lb),(i6 eb)])],false,(dB (dR a b la lb ea eb))⟩
theorem xg (a b : Ns) (la lb : List Int) (ea eb : Int) (hz : EX a) (hl : la.length ≤ 9223372036854775807) : CC (Ng a b la lb ea eb) := by
 refine an.vc (V := TT 3 (CS (ea = eb) (CS (la = lb) (TT 5 ((True∧(decide (ea = eb)) = true)∧TT 4 (CC (qt la lb)∧TT 1 ((True∧(decide (la = lb)) = true)∧TT 4 (CC (jt a b)∧TT 3 ((bB a b) = (dR a b la lb ea eb)∧True)))))) (TT 5 ((True∧(decide (ea = eb)) = true)∧TT 4 (CC (qt la lb)∧TT 1 ((True∧(decide (la = lb)) = false)∧TT 8 (false = (dR a b la lb ea eb)∧True)))))) (TT 5 ((True∧(decide (ea = eb)) = false)∧TT 15 (false = (dR a b la lb ea eb)∧True))))) (.s 1 (ea = eb) (.s 1 (la = lb) (.w 1 [(5,.val (dB true)),(10,(qt la lb).O),(12,.val (dB true)),(17,(jt a b).O)] <| .e) (.w 1 [(5,.val (dB true)),(10,(qt la lb).O),(12,.val (dB false))] <| .e)) (.w 1 [(5,.val (dB false))] <| .e)) Tryz.func30 rfl rfl rfl (by kernel_rfl) ?_
 refine tt ⟨fun hs0 => ?_,fun hs0 => ?_⟩
 · refine ⟨fun hs1 => ?_,fun hs1 => ?_⟩
   · refine tt ⟨(vT hs0),tt ⟨(ex la lb hl),tt ⟨(vT hs1),tt ⟨(bH a b hz),tt ⟨?_,oK⟩⟩⟩⟩⟩
     first | (rw [GB hs0]) | (rw [uV hs0 hs1]) | (rw [un hs0 hs1]) | (rw [un hs0 (by simpa using hs1)]) | (rw [uV hs0 (by simpa using hs1)])
   · refine tt ⟨(vT hs0),tt ⟨(ex la lb hl),tt ⟨(vF hs1),tt ⟨?_,oK⟩⟩⟩⟩
     first | (rw [GB hs0]) | (rw [uV hs0 hs1]) | (rw [un hs0 hs1]) | (rw [un hs0 (by simpa using hs1)]) | (rw [uV hs0 (by simpa using hs1)])
 · refine tt ⟨(vF hs0),tt ⟨?_,oK⟩⟩
   first | (rw [GB hs0]) | (rw [uV hs0 hs1]) | (rw [un hs0 hs1]) | (rw [un hs0 (by simpa using hs1)]) | (rw [uV hs0 (by simpa using hs1)])
abbrev DJ (c : Ci) (sh : Int) (b bb l : List Int) : Ct := ⟨12,[(.agg [(dI .u8 sh),(LY b),(LY bb),(LY l)]),(yE c)],true,(.agg [(dL 2 be aU ((ab c bb l).procs)),(dL 1 af [] ((ab c bb l).chans))])⟩
theorem kS (c : Ci) (sh : Int) (b bb l : List Int) (hc : bo c) (hbo : iz bb) (hlo : iz l) : CC (DJ c sh b bb l) := by
 have hbk := GD hc hbo
 have hmn := KE l
 refine an.vc (V := TT 7 (CC (OP c bb)∧TT 5 ((True∧(Cp (l.length : Int) 20) = (((min l.length 20) : Nat) : Int))∧((0 ≤ (0 : Int)∧(0 : Int) ≤ (((min l.length 20) : Nat) : Int)∧(((min l.length 20) : Nat) : Int) ≤ (l.length : Int))∧((l.take (min l.length 20)).drop 0).map (ah .u8) = (l.take (min l.length 20)).map (ah .u8))∧CC (OQ c (fB c bb) (l.take (min l.length 20)))∧TT 2 (((fC c (fB c bb) (l.take (min l.length 20))).procs).map be = ((ab c bb l).procs).map be∧((fC c (fB c bb) (l.take (min l.length 20))).chans).map af = ((ab c bb l).chans).map af∧True)))) (.w 1 [(4,(OP c bb).O),(10,.val (i6 (((min l.length 20) : Nat) : Int))),(11,.val (LY (l.take (min l.length 20)))),(12,(OQ c (fB c bb) (l.take (min l.length 20))).O)] <| .e) Tryz.func12 rfl rfl rfl (by kernel_rfl) ?_
 refine tt ⟨(IZ c bb hc hbo),tt ⟨⟨oK,(KE l)⟩,⟨⟨om,rfl⟩,⟨(GA c (fB c bb) (l.take (min l.length 20)) hc hbk.1 hbk.2 (by rw [List.length_take]; omega) (I1 hlo)),tt ⟨(congrArg _ (?_ : ((fC c (fB c bb) (l.take (min l.length 20))).procs) = ((ab c bb l).procs))),(congrArg _ (?_ : ((fC c (fB c bb) (l.take (min l.length 20))).chans) = ((ab c bb l).chans))),oK⟩⟩⟩⟩⟩
 all_goals (rfl)
end Go.Proofs.YtifoecfajmnjjaaGreat
