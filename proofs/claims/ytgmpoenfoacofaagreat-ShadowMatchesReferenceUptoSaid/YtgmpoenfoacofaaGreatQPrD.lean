/-
  The reference of package process.
-/
import Derived.Test.YtgmpoenfoacofaaGreatQPrA
import Derived.Test.YtgmpoenfoacofaaGreatQPrT
import Derived.Test.YtgmpoenfoacofaaGreatQVrA
namespace Go.Proofs.YtgmpoenfoacofaaGreat
open Go.RowKit
set_option linter.unusedVariables false
set_option linter.unusedSimpArgs false
abbrev t8 (p : Pr) : az := (.var 82 [(dS p.name),(dS p.clock),(dL 13 iC bG p.regs),(dL 27 pP aI p.mems),(dL 9 ji bB p.takes),(dL 16 gE bf p.puts)])
abbrev BU (p : Pr) (s : Ps) (hs : List Hd) : az := (.var 205 [(dS p.name),(dS p.clock),(dL 13 iC bG p.regs),(dL 27 pP aI p.mems),(dL 9 ji bB p.takes),(dL 16 gE bf p.puts),(LI s.regs),(dL 1 ac [] s.mems),(LI (bL p s hs))])
abbrev Fu (p : Pr) : D := (.agg [(dS p.name),(dS p.clock),(dL 13 iC bG p.regs),(dL 27 pP aI p.mems),(dL 9 ji bB p.takes),(dL 16 gE bf p.puts)])
abbrev Fv (p : Pr) (s : Ps) (data : List Int) : az := (.var 205 [(dS p.name),(dS p.clock),(dL 13 iC bG p.regs),(dL 27 pP aI p.mems),(dL 9 ji bB p.takes),(dL 16 gE bf p.puts),(LI s.regs),(dL 1 ac [] s.mems),(LI data)])
abbrev Fw (p : Pr) (s : Ps) (data : List Int) : D := (.agg [(dS p.name),(dS p.clock),(dL 13 iC bG p.regs),(dL 27 pP aI p.mems),(dL 9 ji bB p.takes),(dL 16 gE bf p.puts),(LI s.regs),(dL 1 ac [] s.mems),(LI data)])
abbrev t9 (s : Ps) : List D := [(LI s.regs),(dL 1 ac [] s.mems)]
abbrev BV : az := (.var 179 [(dB false),.nils,.nils,.nils,.nils])
abbrev ll : D := (.ptr 0 0 0 0)
set_option maxRecDepth 100000
abbrev Ll (p : Pr) : Ct := ⟨73,[(Fu p)],true,(.agg [(LI ((aN p).regs)),(dL 1 ac [] ((aN p).mems))])⟩
abbrev l7 (p : Pr) : Lp (Nat) := f6 [1,2,3,4] 4 (fun (i : Nat) => ⟨[(1,ll),(2,(.ptr 1 0 0 0)),(3,(.ptr 2 0 0 0)),(4,(i6 (i : Int)))],[(t8 p),(.var 112 [.nils,.nils]),(.var 112 [(.own 3),.nils]),(.arr 3 1 (ae .i64) 0 (tab (fun z => (p.regs.getD z bG).init) i))]⟩) (fun (i : Nat) => i ≤ p.regs.length) (fun (i : Nat) => p.regs.length - i)
abbrev l8 (p : Pr) (i : Nat) : Lp (Nat) := f6 [1,2,3,5] 5 (fun (j : Nat) => ⟨[(1,ll),(2,(.ptr 1 0 0 0)),(3,(.ptr 2 0 0 0)),(5,(i6 (j : Int)))],[(t8 p),(.var 112 [.nils,.nils]),(.var 112 [(.own 3),(.own 4)]),(.arr 3 1 (ae .i64) 0 (tab (fun z => (p.regs.getD z bG).init) i)),(.arr 28 1 ac [] (tab (fun z => List.replicate (p.mems.getD z aI).words.toNat (0 : Int)) j))]⟩) (fun (j : Nat) => j ≤ p.mems.length) (fun (j : Nat) => p.mems.length - j)
theorem Dg (p : Pr) (hp : gv p) : CC (Ll p) := by
 have hl1 := hp.rl
 have hl2 := hp.ml
 refine af.vc (V := TT 6 (GO (l7 p) 0 (∀ i,(l7 p).inv i → TT 5 (CD ((i : Int) < (p.regs.length : Int)) (TT 5 (IX (i : Int) p.regs.length∧TT 2 (am [[(i6 ((p.regs.getD i bG).init))]] ([(p.regs.getD i bG).init].map (ae .i64))∧((tab (fun z => (p.regs.getD z bG).init) i).length + ([(p.regs.getD i bG).init].map (ae .i64)).length ≤ 137438953472∧(tab (fun z => (p.regs.getD z bG).init) i).map (ae .i64) ++ [(p.regs.getD i bG).init].map (ae .i64) = (tab (fun z => (p.regs.getD z bG).init) (i + 1)).map (ae .i64))∧TT 3 (W6 ((i + 1 : Nat) : Int)∧TT 1 (AG (l7 p) i (i + 1)))))) (TT 1 (GO (l8 p i) 0 (∀ j,(l8 p i).inv j → TT 5 (CD ((j : Int) < (p.mems.length : Int)) (TT 5 (IX (j : Int) p.mems.length∧TT 2 ((((0 : Int) ≤ (p.mems.getD j aI).words∧(p.mems.getD j aI).words ≤ (p.mems.getD j aI).words∧(p.mems.getD j aI).words ≤ 137438953472)∧(List.replicate (p.mems.getD j aI).words.toNat (0 : Int)).length = ((p.mems.getD j aI).words).toNat∧∀ x ∈ (List.replicate (p.mems.getD j aI).words.toNat (0 : Int)),cB [(i6 0)] ((ae .i64) x))∧am [[(LI (List.replicate (p.mems.getD j aI).words.toNat (0 : Int)))]] ([List.replicate (p.mems.getD j aI).words.toNat (0 : Int)].map ac)∧((tab (fun z => List.replicate (p.mems.getD z aI).words.toNat (0 : Int)) j).length + ([List.replicate (p.mems.getD j aI).words.toNat (0 : Int)].map ac).length ≤ 137438953472∧(tab (fun z => List.replicate (p.mems.getD z aI).words.toNat (0 : Int)) j).map ac ++ [List.replicate (p.mems.getD j aI).words.toNat (0 : Int)].map ac = (tab (fun z => List.replicate (p.mems.getD z aI).words.toNat (0 : Int)) (j + 1)).map ac)∧TT 3 (W6 ((j + 1 : Nat) : Int)∧TT 1 (AG (l8 p i) j (j + 1)))))) (TT 3 ((tab (fun z => (p.regs.getD z bG).init) i).map (ae .i64) = ((aN p).regs).map (ae .i64)∧(tab (fun z => List.replicate (p.mems.getD z aI).words.toNat (0 : Int)) j).map ac = ((aN p).mems).map ac∧True)))))))))) (.g 2 2 0 3 1 (ae .i64) 0 <| .l (l7 p) 0 (fun i => .b 11 (.w 5 [(8,.box 3 1 (ae .i64) 0 [(p.regs.getD i bG).init]),(9,.box 3 1 (ae .i64) 0 (tab (fun z => (p.regs.getD z bG).init) (i + 1)))] <| .w 4 [(1,.val (i6 ((i + 1 : Nat) : Int)))] <| .e) (.g 6 2 1 28 1 ac [] <| .l (l8 p i) 0 (fun j => .b 29 (.w 9 [(8,.frz 3 1 (ae .i64) 0 (List.replicate (p.mems.getD j aI).words.toNat (0 : Int))),(9,.box 28 1 ac [] [List.replicate (p.mems.getD j aI).words.toNat (0 : Int)]),(10,.box 28 1 ac [] (tab (fun z => List.replicate (p.mems.getD z aI).words.toNat (0 : Int)) (j + 1)))] <| .w 8 [(1,.val (i6 ((j + 1 : Nat) : Int)))] <| .e) (.e))))) Tryz.func73 rfl rfl rfl (by kernel_rfl) ?_
 refine tt ⟨rfl,(by omega),?_⟩
 intro i hinv
 have hi := hinv
 refine tt (cd (fun hc11 => ?_) (fun hc11 => ?_))
 · refine tt ⟨ix,tt ⟨⟨⟨rfl,oK⟩,oK⟩,⟨(fA (f := fun z => (p.regs.getD z bG).init) (by omega)),tt ⟨w6,tt ⟨(i + 1),rfl,(?_ : (i + 1) ≤ p.regs.length),(?_ : p.regs.length - (i + 1) < p.regs.length - i)⟩⟩⟩⟩⟩
   · omega
   · omega
 · refine tt ⟨rfl,(by omega),?_⟩
   intro j hinv
   have hj := hinv
   refine tt (cd (fun hc29 => ?_) (fun hc29 => ?_))
   · have hmw : 1 ≤ (p.mems.getD j aI).words∧(p.mems.getD j aI).words ≤ 4 := (hp.mw j (by omega)).2.1
     refine tt ⟨ix,tt ⟨⟨by omega,List.length_replicate,fun x hx => by rw [List.eq_of_mem_replicate hx]; exact ⟨rfl,oK⟩⟩,⟨⟨⟨rfl,oK⟩,oK⟩,⟨(fA (f := fun z => List.replicate (p.mems.getD z aI).words.toNat (0 : Int)) (by omega)),tt ⟨w6,tt ⟨(j + 1),rfl,(?_ : (j + 1) ≤ p.mems.length),(?_ : p.mems.length - (j + 1) < p.mems.length - j)⟩⟩⟩⟩⟩⟩
     · omega
     · omega
   · refine tt ⟨(congrArg _ (?_ : (tab (fun z => (p.regs.getD z bG).init) i) = ((aN p).regs))),(congrArg _ (?_ : (tab (fun z => List.replicate (p.mems.getD z aI).words.toNat (0 : Int)) j) = ((aN p).mems))),oK⟩
     · rw [oY,show i = p.regs.length by omega]
     · rw [oY,show j = p.mems.length by omega]
abbrev lm (p : Pr) (s : Ps) (data : List Int) (n : Nat) (e : Ex) : Ct := ⟨107,[(Fw p s data),(.agg [(i6 e.op),(dS e.name),(i6 e.k.n),(dS e.k.p),(i6 e.w.n),(dS e.w.p),(dL 7 (eA n) dE e.args)])],false,(.agg [(i6 ((aZ p s data e).1)),(i6 ((aZ p s data e).2))])⟩
abbrev sq (p : Pr) (s : Ps) (data : List Int) (n : Nat) (e : Ex) : Lp (Nat) := f6 [2,3,4,7,8,9] 5 (fun (i : Nat) => ⟨[(2,ll),(3,(.ptr 1 0 0 0)),(4,(.ptr 2 0 0 0)),(7,(.own 3)),(8,(.own 4)),(9,(i6 (i : Int)))],[(Fv p s data),(.var 74 [(i6 e.op),(dS e.name),(i6 e.k.n),(dS e.k.p),(i6 e.w.n),(dS e.w.p),(dL 7 (eA (n + 1)) dE e.args)]),(.var 210 [(i6 0),(i6 0)]),(.arr 3 1 (ae .i64) 0 (en p s data (e.args.take i))),(.arr 3 1 (ae .i64) 0 (cE p s data (e.args.take i)))]⟩) (fun (i : Nat) => i ≤ e.args.length) (fun (i : Nat) => e.args.length - i)
theorem BW (p : Pr) (s : Ps) (data : List Int) (n : Nat) (e : Ex) (c : Sc) (v : Int) (ho : qu c p s data) (ht : ew c e = some v) (hmw : ∀ i,i < p.mems.length → ((s.mems.getD i []).length : Int) = (p.mems.getD i aI).words) (ih : ∀ a ∈ e.args,CC (lm p s data n a)) : CC (lm p s data (n + 1) e) := by
 have hal := Er ht
 refine af.vc (V := TT 7 (CD (e.op = 16) (TT 6 (IX e.k.n s.regs.length∧TT 7 (IX e.k.n p.regs.length∧TT 5 ((((s.regs.getD e.k.n.toNat 0) = ((aZ p s data e).1)∧((p.regs.getD e.k.n.toNat bG).w) = ((aZ p s data e).2)∧True))∧((True∧True∧True)))))) (TT 2 (CD (e.op = 17) (TT 6 (IX e.k.n p.mems.length∧TT 6 (IX 0 e.args.length∧TT 1 (CC (lm p s data n (e.args.getD 0 dE))∧TT 8 (IX e.k.n s.mems.length∧TT 5 ((((p.mems.getD e.k.n.toNat aI).words) ≠ 0∧(Int.tmod ((aZ p s data (e.args.getD 0 dE)).1) ((p.mems.getD e.k.n.toNat aI).words)) = (Int.tmod (aZ p s data (e.args.getD 0 dE)).1 ((s.mems.getD e.k.n.toNat []).length : Int)))∧IX (Int.tmod (aZ p s data (e.args.getD 0 dE)).1 ((s.mems.getD e.k.n.toNat []).length : Int)) ((s.mems.getD e.k.n.toNat []).length)∧TT 6 (((((s.mems.getD e.k.n.toNat []).getD ((Int.tmod (aZ p s data (e.args.getD 0 dE)).1 ((s.mems.getD e.k.n.toNat []).length : Int)).toNat) 0) = ((aZ p s data e).1)∧((p.mems.getD e.k.n.toNat aI).w) = ((aZ p s data e).2)∧True))∧((True∧True∧True))))))))) (TT 2 (CD (e.op = 18) (TT 5 (IX e.k.n data.length∧TT 7 (IX e.k.n p.takes.length∧TT 5 ((((data.getD e.k.n.toNat 0) = ((aZ p s data e).1)∧((p.takes.getD e.k.n.toNat bB).w) = ((aZ p s data e).2)∧True))∧((True∧True∧True)))))) (am [] ((en p s data (e.args.take 0)).map (ae .i64))∧am [] ((cE p s data (e.args.take 0)).map (ae .i64))∧TT 3 (GO (sq p s data n e) 0 (∀ i,(sq p s data n e).inv i → TT 5 (CD ((i : Int) < (e.args.length : Int)) (TT 4 (IX (i : Int) e.args.length∧TT 1 (CC (lm p s data n (e.args.getD i dE))∧TT 5 (am [[(i6 ((aZ p s data (e.args.getD i dE)).1))]] ([(aZ p s data (e.args.getD i dE)).1].map (ae .i64))∧((en p s data (e.args.take i)).length + ([(aZ p s data (e.args.getD i dE)).1].map (ae .i64)).length ≤ 137438953472∧(en p s data (e.args.take i)).map (ae .i64) ++ [(aZ p s data (e.args.getD i dE)).1].map (ae .i64) = (en p s data (e.args.take (i + 1))).map (ae .i64))∧TT 4 (am [[(i6 ((aZ p s data (e.args.getD i dE)).2))]] ([(aZ p s data (e.args.getD i dE)).2].map (ae .i64))∧((cE p s data (e.args.take i)).length + ([(aZ p s data (e.args.getD i dE)).2].map (ae .i64)).length ≤ 137438953472∧(cE p s data (e.args.take i)).map (ae .i64) ++ [(aZ p s data (e.args.getD i dE)).2].map (ae .i64) = (cE p s data (e.args.take (i + 1))).map (ae .i64))∧TT 2 (W6 ((i + 1 : Nat) : Int)∧TT 1 (AG (sq p s data n e) i (i + 1)))))))) (TT 10 (CK (Fs e.op (cE p s data (e.args.take i)) e.k.n e.w.n)∧TT 12 (am [[(i6 e.k.n)],[(i6 e.w.n)]] ([e.k.n,e.w.n].map (ae .i64))∧TT 1 (CK (IH e.op (cE p s data (e.args.take i)) (en p s data (e.args.take i)) [e.k.n,e.w.n])∧TT 9 ((((cg e.op (cE p s data (e.args.take i)) (en p s data (e.args.take i)) [e.k.n,e.w.n]) = ((aZ p s data e).1)∧(bJ e.op (cE p s data (e.args.take i)) e.k.n e.w.n) = ((aZ p s data e).2)∧True))∧((True∧True∧True))))))))))))))))) (.b 15 (.e) (.b 35 (.w 6 [(5,(lm p s data n (e.args.getD 0 dE)).O)] <| .w 7 [(12,.val (i6 (Int.tmod (aZ p s data (e.args.getD 0 dE)).1 ((s.mems.getD e.k.n.toNat []).length : Int))))] <| .e) (.b 69 (.e) (.w 10 [(0,.box 3 1 (ae .i64) 0 (en p s data (e.args.take 0))),(1,.box 3 1 (ae .i64) 0 (cE p s data (e.args.take 0)))] <| .l (sq p s data n e) 0 (fun i => .b 94 (.w 14 [(6,(lm p s data n (e.args.getD i dE)).O)] <| .w 15 [(3,.box 3 1 (ae .i64) 0 [(aZ p s data (e.args.getD i dE)).1]),(4,.box 3 1 (ae .i64) 0 (en p s data (e.args.take (i + 1))))] <| .w 16 [(3,.box 3 1 (ae .i64) 0 [(aZ p s data (e.args.getD i dE)).2]),(4,.box 3 1 (ae .i64) 0 (cE p s data (e.args.take (i + 1))))] <| .w 13 [(1,.val (i6 ((i + 1 : Nat) : Int)))] <| .e) (.w 17 [(10,(Fs e.op (cE p s data (e.args.take i)) e.k.n e.w.n).O')] <| .w 18 [(10,.box 3 1 (ae .i64) 0 [e.k.n,e.w.n]),(12,(IH e.op (cE p s data (e.args.take i)) (en p s data (e.args.take i)) [e.k.n,e.w.n]).O')] <| .e)))))) Tryz.func107 rfl rfl rfl (by kernel_rfl) ?_
 refine tt (cd (fun hc15 => ?_) (fun hc15 => ?_))
 · obtain ⟨h1,h2,h3⟩ := Es ho ht hc15
   refine tt ⟨ix,tt ⟨ix,tt ⟨⟨?_,?_,oK⟩,⟨oK,oK,oK⟩⟩⟩⟩
   all_goals (first | exact (eh hc15).1.symm | exact (eh hc15).2.symm | exact (cK hc69).1.symm | exact (cK hc69).2.symm | exact (cL hc35 hlen).1.symm | exact (cL hc35 hlen).2.symm | (rw [hie,List.take_length]; exact (gf hc15 hc69 hc35).1.symm) | (rw [hie,List.take_length]; exact (gf hc15 hc69 hc35).2.symm))
 · refine tt (cd (fun hc35 => ?_) (fun hc35 => ?_))
   · obtain ⟨h1,h2,h3,hlen,h4,h5,h6⟩ := Be ho ht hc35
     have hpw : (p.mems.getD e.k.n.toNat aI).words = ((s.mems.getD e.k.n.toNat []).length : Int) := (hmw _ (by omega)).symm
     have hz : (s.mems.getD e.k.n.toNat []).length ≠ 0 := by omega
     refine tt ⟨ix,tt ⟨ix,tt ⟨(ih _ (gF (by omega))),tt ⟨ix,tt ⟨⟨(by omega),(by rw [hpw])⟩,⟨ix,tt ⟨⟨?_,?_,oK⟩,⟨oK,oK,oK⟩⟩⟩⟩⟩⟩⟩⟩
     all_goals (first | exact (eh hc15).1.symm | exact (eh hc15).2.symm | exact (cK hc69).1.symm | exact (cK hc69).2.symm | exact (cL hc35 hlen).1.symm | exact (cL hc35 hlen).2.symm | (rw [hie,List.take_length]; exact (gf hc15 hc69 hc35).1.symm) | (rw [hie,List.take_length]; exact (gf hc15 hc69 hc35).2.symm))
   · refine tt (cd (fun hc69 => ?_) (fun hc69 => ?_))
     · obtain ⟨h1,h2,h3⟩ := Bd ho ht hc69
       refine tt ⟨ix,tt ⟨ix,tt ⟨⟨?_,?_,oK⟩,⟨oK,oK,oK⟩⟩⟩⟩
       all_goals (first | exact (eh hc15).1.symm | exact (eh hc15).2.symm | exact (cK hc69).1.symm | exact (cK hc69).2.symm | exact (cL hc35 hlen).1.symm | exact (cL hc35 hlen).2.symm | (rw [hie,List.take_length]; exact (gf hc15 hc69 hc35).1.symm) | (rw [hie,List.take_length]; exact (gf hc15 hc69 hc35).2.symm))
     · refine ⟨oK,⟨oK,tt ⟨rfl,(by omega),?_⟩⟩⟩
       intro i hinv
       have hi := hinv
       refine tt (cd (fun hc94 => ?_) (fun hc94 => ?_))
       · refine tt ⟨ix,tt ⟨(ih _ (gF (by omega))),tt ⟨⟨⟨rfl,oK⟩,oK⟩,⟨⟨by simp only [List.length_map,List.length_cons,List.length_nil]; rw [tB,List.length_take]; omega,by rw [vK (by omega),List.map_append]⟩,tt ⟨⟨⟨rfl,oK⟩,oK⟩,⟨⟨by simp only [List.length_map,List.length_cons,List.length_nil]; rw [oQ,List.length_take]; omega,by rw [vL (by omega),List.map_append]⟩,tt ⟨w6,tt ⟨(i + 1),rfl,(?_ : (i + 1) ≤ e.args.length),(?_ : e.args.length - (i + 1) < e.args.length - i)⟩⟩⟩⟩⟩⟩⟩⟩
         · omega
         · omega
       · have hie : i = e.args.length := by omega
         have hev := EJ ho ht hc15 hc35 hc69
         have hev1 : fJ e.op (cE p s data (e.args.take i)) e.k.n e.w.n = true := by rw [hie,List.take_length]; exact hev.1
         have hev2 : yv (cE p s data (e.args.take i)) (en p s data (e.args.take i)) = true := by rw [hie,List.take_length]; exact hev.2
         refine tt ⟨⟨cD _ rfl,(t7 e.op (cE p s data (e.args.take i)) e.k.n e.w.n hev1)⟩,tt ⟨⟨⟨rfl,oK⟩,⟨rfl,oK⟩,oK⟩,tt ⟨⟨cD _ rfl,(Aq e.op (cE p s data (e.args.take i)) (en p s data (e.args.take i)) [e.k.n,e.w.n] hev1 (by rw [tB,oQ]) hev2 rfl)⟩,tt ⟨⟨?_,?_,oK⟩,⟨oK,oK,oK⟩⟩⟩⟩⟩
         all_goals (first | exact (eh hc15).1.symm | exact (eh hc15).2.symm | exact (cK hc69).1.symm | exact (cK hc69).2.symm | exact (cL hc35 hlen).1.symm | exact (cL hc35 hlen).2.symm | (rw [hie,List.take_length]; exact (gf hc15 hc69 hc35).1.symm) | (rw [hie,List.take_length]; exact (gf hc15 hc69 hc35).2.symm))
theorem jt {c : Sc} {p : Pr} {s : Ps} {data : List Int} (ho : qu c p s data) (hmw : ∀ i,i < p.mems.length → ((s.mems.getD i []).length : Int) = (p.mems.getD i aI).words) : ∀ (n : Nat) (e : Ex) (v : Int),ew c e = some v → fc e ≤ n + 1 → CC (lm p s data n e)
  | 0,e,v,ht,hd => by
    have ha : e.args = [] := by
      cases hl : e.args with
      | nil => rfl
      | cons a r =>
        have := rZ (e := e) (a := a) (by rw [hl]; simp)
        cases a with | mk op name k w args => rw [fc] at this; omega
    have h := BW p s data 0 e c v ho ht hmw (fun a h => by rw [ha] at h; cases h)
    refine af.recast ?_ h
    refine ⟨tr _ rfl,⟨rfl,rfl,rfl,rfl,rfl,rfl,?_,oK⟩,oK⟩
    show e.args.map (eA 0) = e.args.map (eA 1)
    rw [ha]; rfl
  | n + 1,e,v,ht,hd => BW p s data n e c v ho ht hmw (fun a h => by
    obtain ⟨w,hw⟩ := Ep ht h
    exact jt ho hmw n a w hw (by have := rZ h; omega))
abbrev nI (p : Pr) (s : Ps) (data : List Int) (e : Ex) : Ct := ⟨105,[(Fw p s data),(.agg [(i6 e.op),(dS e.name),(i6 e.k.n),(dS e.k.p),(i6 e.w.n),(dS e.w.p),(dL 7 (eA 2) dE e.args)])],false,(dB (dG p s data e))⟩
theorem ud (p : Pr) (s : Ps) (data : List Int) (e : Ex) {c : Sc} {v : Int} (ho : qu c p s data) (hmw : ∀ i,i < p.mems.length → ((s.mems.getD i []).length : Int) = (p.mems.getD i aI).words) (ht : ew c e = some v) (hd : fc e ≤ 3) : CC (nI p s data e) := by
 refine af.vc (V := TT 5 (CC (lm p s data 2 e)∧TT 4 ((((aZ p s data e).1) == 1) = (dG p s data e)∧True))) (.w 1 [(2,(lm p s data 2 e).O)] <| .e) Tryz.func105 rfl rfl rfl (by kernel_rfl) ?_
 refine tt ⟨(jt ho hmw 2 e _ ht hd),tt ⟨?_,oK⟩⟩
 rfl
abbrev II (p : Pr) (s : Ps) (hs : List Hd) (rs : List Bool) : Ct := ⟨104,[(Fu p),(.agg (t9 s)),(.agg [(dL 2 bI aO hs),(LB rs)])],true,(.agg [(dS p.name),(dS p.clock),(dL 13 iC bG p.regs),(dL 27 pP aI p.mems),(dL 9 ji bB p.takes),(dL 16 gE bf p.puts),(LI s.regs),(dL 1 ac [] s.mems),(LI (bL p s hs))])⟩
abbrev fv (p : Pr) (s : Ps) (hs : List Hd) (rs : List Bool) : Lp (Nat × List Int) := uN [3,5,6,7,8,9] 20 (fun (i : Nat) (dat : List Int) => ⟨[(3,ll),(5,(.ptr 2 0 0 0)),(6,(.ptr 3 0 0 0)),(7,(.ptr 11 0 0 0)),(8,(.ptr 19 0 0 0)),(9,(i6 (i : Int)))],[(t8 p),(.var 112 (t9 s)),(.var 196 [(dL 2 bI aO hs),(LB rs)]),(.var 205 [(dS e0),(dS e0),.nils,.nils,.nils,.nils,.nils,.nils,.nils]),.dead,.dead,.dead,.dead,.dead,.dead,.dead,(.var 205 [(dS p.name),(dS p.clock),(dL 13 iC bG p.regs),(dL 27 pP aI p.mems),(dL 9 ji bB p.takes),(dL 16 gE bf p.puts),(LI s.regs),(dL 1 ac [] s.mems),(LI (il p))]),.dead,.dead,.dead,.dead,.dead,(.arr 3 1 (ae .i64) 0 dat),.dead,(.var 205 [(dS p.name),(dS p.clock),(dL 13 iC bG p.regs),(dL 27 pP aI p.mems),(dL 9 ji bB p.takes),(dL 16 gE bf p.puts),(LI s.regs),(dL 1 ac [] s.mems),(.own 17)])]⟩) (fun (i : Nat) (dat : List Int) => i ≤ p.takes.length∧dat = cu (kP p s hs) (il p) i) (fun (i : Nat) (dat : List Int) => p.takes.length - i)
theorem Ar (p : Pr) (s : Ps) (hs : List Hd) (rs : List Bool) (hp : gv p) (hso : oW p s) (hh : yC p hs) : CC (II p s hs rs) := by
 have ht1 := hp.tl
 have ht2 := hp.pl
 have hhl := hh.l
 have hmw := hso.mn
 have ho := fL hp hso (HB hp)
 refine af.vc (V := TT 9 ((((0 : Int) ≤ (p.takes.length : Int)∧(p.takes.length : Int) ≤ (p.takes.length : Int)∧(p.takes.length : Int) ≤ 137438953472)∧(il p).length = p.takes.length∧∀ x ∈ (il p),cB [(i6 0)] ((ae .i64) x))∧TT 8 ((((0 : Int) ≤ (p.takes.length : Int)∧(p.takes.length : Int) ≤ (p.takes.length : Int)∧(p.takes.length : Int) ≤ 137438953472)∧(il p).length = p.takes.length∧∀ x ∈ (il p),cB [(i6 0)] ((ae .i64) x))∧TT 4 (GO (fv p s hs rs) (0,il p) (∀ i dat,(fv p s hs rs).inv (i,dat) → TT 5 (CD ((i : Int) < (p.takes.length : Int)) (CS ((dG p s (il p) ((p.takes.getD i bB).when)) = true) (TT 4 (IX (i : Int) p.takes.length∧TT 2 (CC (nI p s (il p) ((p.takes.getD i bB).when))∧(True∧(dG p s (il p) ((p.takes.getD i bB).when)) = true)∧TT 3 (IX (i : Int) hs.length∧TT 3 (CB ((hs.getD i aO).has) (TT 6 (IX (i : Int) hs.length∧TT 2 (IX (i : Int) dat.length∧(i < dat.length∧(dat.map (ae .i64)).set i (((ae .i64) (dat.getD i 0)).take 0 ++ [(.int .i64 ((hs.getD i aO).v))] ++ ((ae .i64) (dat.getD i 0)).drop (0 + 1)) = (dat.set i ((hs.getD i aO).v)).map (ae .i64))∧TT 1 (W6 ((i + 1 : Nat) : Int)∧TT 1 (AG (fv p s hs rs) (i,dat) (i + 1,dat.set i ((hs.getD i aO).v))))))) (TT 1 (W6 ((i + 1 : Nat) : Int)∧TT 1 (AG (fv p s hs rs) (i,dat) (i + 1,dat))))))))) (TT 4 (IX (i : Int) p.takes.length∧TT 2 (CC (nI p s (il p) ((p.takes.getD i bB).when))∧(True∧(dG p s (il p) ((p.takes.getD i bB).when)) = false)∧TT 2 (W6 ((i + 1 : Nat) : Int)∧TT 1 (AG (fv p s hs rs) (i,dat) (i + 1,dat))))))) (TT 3 (p.name = p.name∧p.clock = p.clock∧p.regs.map iC = p.regs.map iC∧p.mems.map pP = p.mems.map pP∧p.takes.map ji = p.takes.map ji∧p.puts.map gE = p.puts.map gE∧s.regs.map (ae .i64) = s.regs.map (ae .i64)∧s.mems.map ac = s.mems.map ac∧dat.map (ae .i64) = (bL p s hs).map (ae .i64)∧True)))))))) (.w 1 [(5,.frz 3 1 (ae .i64) 0 (il p))] <| .w 2 [(5,.box 3 1 (ae .i64) 0 (il p))] <| .l (fv p s hs rs) (0,il p) (fun ⟨i,dat⟩ => .b 28 (.s 6 ((dG p s (il p) ((p.takes.getD i bB).when)) = true) (.w 6 [(7,(nI p s (il p) ((p.takes.getD i bB).when)).O),(8,.val (dB true))] <| .b 46 (.w 7 [(10,.box 3 1 (ae .i64) 0 (dat.set i ((hs.getD i aO).v)))] <| .w 5 [(1,.val (i6 ((i + 1 : Nat) : Int)))] <| .e) (.w 5 [(1,.val (i6 ((i + 1 : Nat) : Int)))] <| .e)) (.w 6 [(7,(nI p s (il p) ((p.takes.getD i bB).when)).O),(8,.val (dB false))] <| .w 5 [(1,.val (i6 ((i + 1 : Nat) : Int)))] <| .e)) (.e))) Tryz.func104 rfl rfl rfl (by kernel_rfl) ?_
 refine tt ⟨⟨by omega,dU,fun x hx => by rw [List.eq_of_mem_replicate hx]; exact ⟨rfl,oK⟩⟩,tt ⟨⟨by omega,dU,fun x hx => by rw [List.eq_of_mem_replicate hx]; exact ⟨rfl,oK⟩⟩,tt ⟨rfl,⟨by omega,rfl⟩,?_⟩⟩⟩
 intro i dat hinv
 obtain ⟨hi,hdat⟩ := hinv
 have hdl : dat.length = p.takes.length := by rw [hdat,dT (by rw [dU]; exact hi),dU]
 refine tt (cd (fun hc28 => ?_) (fun hc28 => ?_))
 · have hwh := r7 hp (show i < p.takes.length by omega)
   refine ⟨fun hs0 => ?_,fun hs0 => ?_⟩
   · refine tt ⟨ix,tt ⟨(ud p s (il p) ((p.takes.getD i bB).when) ho hmw hwh.1 hwh.2),⟨(bT hs0),tt ⟨ix,tt ⟨fun hc46 => ?_,fun hc46 => ?_⟩⟩⟩⟩⟩
     · refine tt ⟨ix,tt ⟨ix,⟨⟨om,by simp only [List.map_set]; rfl⟩,tt ⟨w6,tt ⟨(i + 1,dat.set i ((hs.getD i aO).v)),rfl,?_,(?_ : p.takes.length - (i + 1) < p.takes.length - i)⟩⟩⟩⟩⟩
       · exact ⟨by omega,by rw [hdat]; exact bX (by rw [dU]; omega) (Gy hs0 hc46)⟩
       · omega
     · refine tt ⟨w6,tt ⟨(i + 1,dat),rfl,?_,(?_ : p.takes.length - (i + 1) < p.takes.length - i)⟩⟩
       · exact ⟨by omega,by rw [hdat]; exact bZ (by rw [dU]; omega) (by first | exact Bo (by assumption) | exact Bp (by rw [hc46]; simp))⟩
       · omega
   · refine tt ⟨ix,tt ⟨(ud p s (il p) ((p.takes.getD i bB).when) ho hmw hwh.1 hwh.2),⟨(bF hs0),tt ⟨w6,tt ⟨(i + 1,dat),rfl,?_,(?_ : p.takes.length - (i + 1) < p.takes.length - i)⟩⟩⟩⟩⟩
     · exact ⟨by omega,by rw [hdat]; exact bZ (by rw [dU]; omega) (by first | exact Bo (by assumption) | exact Bp (by rw [hc46]; simp))⟩
     · omega
 · refine tt ⟨rfl,rfl,rfl,rfl,rfl,rfl,rfl,rfl,(congrArg _ (?_ : dat = (bL p s hs))),oK⟩
   rw [hdat,show i = p.takes.length by omega,cS (by rw [dU]; exact Nat.le_refl _)]; rfl
abbrev IJ (p : Pr) (s : Ps) (data : List Int) : Ct := ⟨106,[(Fw p s data)],true,(.agg [(LI ((b6 p s data).regs)),(dL 1 ac [] ((b6 p s data).mems))])⟩
abbrev pC (p : Pr) (s : Ps) (data : List Int) : Lp (Nat) := f6 [1,2,3,4] 4 (fun (i : Nat) => ⟨[(1,ll),(2,(.ptr 1 0 0 0)),(3,(.ptr 2 0 0 0)),(4,(i6 (i : Int)))],[(Fv p s data),(.var 112 [.nils,.nils]),(.var 112 [(.own 3),.nils]),(.arr 3 1 (ae .i64) 0 (tab (fun z => (aZ p s data (p.regs.getD z bG).next).1) i))]⟩) (fun (i : Nat) => i ≤ p.regs.length) (fun (i : Nat) => p.regs.length - i)
abbrev ln (p : Pr) (s : Ps) (data : List Int) (i : Nat) : Lp (Nat) := f6 [1,2,3,5] 5 (fun (j : Nat) => ⟨[(1,ll),(2,(.ptr 1 0 0 0)),(3,(.ptr 2 0 0 0)),(5,(i6 (j : Int)))],[(Fv p s data),(.var 112 [.nils,.nils]),(.var 112 [(.own 3),(.own 4)]),(.arr 3 1 (ae .i64) 0 (tab (fun z => (aZ p s data (p.regs.getD z bG).next).1) i)),(.arr 28 1 ac [] (tab (pQ p s data) j))]⟩) (fun (j : Nat) => j ≤ p.mems.length) (fun (j : Nat) => p.mems.length - j)
theorem Fx (p : Pr) (s : Ps) (data : List Int) (hp : gv p) (hso : oW p s) (hda : yB p data) : CC (IJ p s data) := by
 have hl1 := hp.rl
 have hl2 := hp.ml
 have hmw := hso.mn
 have ho := fL hp hso hda
 have hsl := hso.ml
 refine af.vc (V := TT 6 (GO (pC p s data) 0 (∀ i,(pC p s data).inv i → TT 6 (CD ((i : Int) < (p.regs.length : Int)) (TT 7 (IX (i : Int) p.regs.length∧TT 2 (CC (lm p s data 2 ((p.regs.getD i bG).next))∧TT 1 (am [[(i6 ((aZ p s data ((p.regs.getD i bG).next)).1))]] ([(aZ p s data ((p.regs.getD i bG).next)).1].map (ae .i64))∧((tab (fun z => (aZ p s data (p.regs.getD z bG).next).1) i).length + ([(aZ p s data ((p.regs.getD i bG).next)).1].map (ae .i64)).length ≤ 137438953472∧(tab (fun z => (aZ p s data (p.regs.getD z bG).next).1) i).map (ae .i64) ++ [(aZ p s data ((p.regs.getD i bG).next)).1].map (ae .i64) = (tab (fun z => (aZ p s data (p.regs.getD z bG).next).1) (i + 1)).map (ae .i64))∧TT 3 (W6 ((i + 1 : Nat) : Int)∧TT 1 (AG (pC p s data) i (i + 1))))))) (TT 1 (GO (ln p s data i) 0 (∀ j,(ln p s data i).inv j → TT 6 (CD ((j : Int) < (p.mems.length : Int)) (TT 4 (IX (j : Int) p.mems.length∧TT 3 (am [] (([] : List Int).map (ae .i64))∧TT 4 (IX (j : Int) s.mems.length∧TT 1 ((([] : List Int).length + ((s.mems.getD j []).map (ae .i64)).length ≤ 137438953472∧([] : List Int).map (ae .i64) ++ (s.mems.getD j []).map (ae .i64) = (s.mems.getD j []).map (ae .i64))∧TT 4 (CC (nI p s data ((p.mems.getD j aI).enable))∧CB (dG p s data ((p.mems.getD j aI).enable)) (TT 4 (CC (lm p s data 2 ((p.mems.getD j aI).addr))∧TT 3 (((p.mems.getD j aI).words) ≠ 0∧TT 3 (CC (lm p s data 2 ((p.mems.getD j aI).data))∧TT 1 (IX (Int.tmod ((aZ p s data ((p.mems.getD j aI).addr)).1) ((p.mems.getD j aI).words)) ((s.mems.getD j []).length)∧((Int.tmod ((aZ p s data ((p.mems.getD j aI).addr)).1) ((p.mems.getD j aI).words)).toNat < (s.mems.getD j []).length∧((s.mems.getD j []).map (ae .i64)).set ((Int.tmod ((aZ p s data ((p.mems.getD j aI).addr)).1) ((p.mems.getD j aI).words)).toNat) (((ae .i64) ((s.mems.getD j []).getD ((Int.tmod ((aZ p s data ((p.mems.getD j aI).addr)).1) ((p.mems.getD j aI).words)).toNat) 0)).take 0 ++ [(.int .i64 ((aZ p s data ((p.mems.getD j aI).data)).1))] ++ ((ae .i64) ((s.mems.getD j []).getD ((Int.tmod ((aZ p s data ((p.mems.getD j aI).addr)).1) ((p.mems.getD j aI).words)).toNat) 0)).drop (0 + 1)) = ((s.mems.getD j []).set ((Int.tmod ((aZ p s data ((p.mems.getD j aI).addr)).1) ((p.mems.getD j aI).words)).toNat) ((aZ p s data ((p.mems.getD j aI).data)).1)).map (ae .i64))∧TT 3 (am [[(LI ((s.mems.getD j []).set ((Int.tmod ((aZ p s data ((p.mems.getD j aI).addr)).1) ((p.mems.getD j aI).words)).toNat) ((aZ p s data ((p.mems.getD j aI).data)).1)))]] ([(s.mems.getD j []).set ((Int.tmod ((aZ p s data ((p.mems.getD j aI).addr)).1) ((p.mems.getD j aI).words)).toNat) ((aZ p s data ((p.mems.getD j aI).data)).1)].map ac)∧((tab (pQ p s data) j).length + ([(s.mems.getD j []).set ((Int.tmod ((aZ p s data ((p.mems.getD j aI).addr)).1) ((p.mems.getD j aI).words)).toNat) ((aZ p s data ((p.mems.getD j aI).data)).1)].map ac).length ≤ 137438953472∧(tab (pQ p s data) j).map ac ++ [(s.mems.getD j []).set ((Int.tmod ((aZ p s data ((p.mems.getD j aI).addr)).1) ((p.mems.getD j aI).words)).toNat) ((aZ p s data ((p.mems.getD j aI).data)).1)].map ac = (tab (pQ p s data) (j + 1)).map ac)∧TT 3 (W6 ((j + 1 : Nat) : Int)∧TT 1 (AG (ln p s data i) j (j + 1))))))))) (TT 3 (am [[(LI (s.mems.getD j []))]] ([s.mems.getD j []].map ac)∧((tab (pQ p s data) j).length + ([s.mems.getD j []].map ac).length ≤ 137438953472∧(tab (pQ p s data) j).map ac ++ [s.mems.getD j []].map ac = (tab (pQ p s data) (j + 1)).map ac)∧TT 3 (W6 ((j + 1 : Nat) : Int)∧TT 1 (AG (ln p s data i) j (j + 1))))))))))) (TT 3 ((tab (fun z => (aZ p s data (p.regs.getD z bG).next).1) i).map (ae .i64) = ((b6 p s data).regs).map (ae .i64)∧(tab (pQ p s data) j).map ac = ((b6 p s data).mems).map ac∧True)))))))))) (.g 2 2 0 3 1 (ae .i64) 0 <| .l (pC p s data) 0 (fun i => .b 14 (.w 5 [(10,(lm p s data 2 ((p.regs.getD i bG).next)).O),(12,.box 3 1 (ae .i64) 0 [(aZ p s data ((p.regs.getD i bG).next)).1]),(13,.box 3 1 (ae .i64) 0 (tab (fun z => (aZ p s data (p.regs.getD z bG).next).1) (i + 1)))] <| .w 4 [(1,.val (i6 ((i + 1 : Nat) : Int)))] <| .e) (.g 6 2 1 28 1 ac [] <| .l (ln p s data i) 0 (fun j => .b 37 (.w 10 [(0,.box 3 1 (ae .i64) 0 ([] : List Int)),(7,.box 3 1 (ae .i64) 0 (s.mems.getD j []))] <| .w 11 [(3,(nI p s data ((p.mems.getD j aI).enable)).O)] <| .b 57 (.w 12 [(4,(lm p s data 2 ((p.mems.getD j aI).addr)).O),(12,(lm p s data 2 ((p.mems.getD j aI).data)).O),(15,.box 3 1 (ae .i64) 0 ((s.mems.getD j []).set ((Int.tmod ((aZ p s data ((p.mems.getD j aI).addr)).1) ((p.mems.getD j aI).words)).toNat) ((aZ p s data ((p.mems.getD j aI).data)).1)))] <| .f 13 6 <| .w 13 [(3,.box 28 1 ac [] [(s.mems.getD j []).set ((Int.tmod ((aZ p s data ((p.mems.getD j aI).addr)).1) ((p.mems.getD j aI).words)).toNat) ((aZ p s data ((p.mems.getD j aI).data)).1)]),(4,.box 28 1 ac [] (tab (pQ p s data) (j + 1)))] <| .w 8 [(1,.val (i6 ((j + 1 : Nat) : Int)))] <| .e) (.f 13 6 <| .w 13 [(3,.box 28 1 ac [] [s.mems.getD j []]),(4,.box 28 1 ac [] (tab (pQ p s data) (j + 1)))] <| .w 8 [(1,.val (i6 ((j + 1 : Nat) : Int)))] <| .e)) (.e))))) Tryz.func106 rfl rfl rfl (by kernel_rfl) ?_
 refine tt ⟨rfl,(by omega),?_⟩
 intro i hinv
 have hi := hinv
 refine tt (cd (fun hc14 => ?_) (fun hc14 => ?_))
 · have hrn := hp.rw i (by omega)
   refine tt ⟨ix,tt ⟨(jt ho hmw 2 ((p.regs.getD i bG).next) _ hrn.2.2.1 hrn.2.2.2),tt ⟨⟨⟨rfl,oK⟩,oK⟩,⟨(fA (f := fun z => (aZ p s data (p.regs.getD z bG).next).1) (by omega)),tt ⟨w6,tt ⟨(i + 1),rfl,(?_ : (i + 1) ≤ p.regs.length),(?_ : p.regs.length - (i + 1) < p.regs.length - i)⟩⟩⟩⟩⟩⟩
   · omega
   · omega
 · refine tt ⟨rfl,(by omega),?_⟩
   intro j hinv
   have hj := hinv
   refine tt (cd (fun hc37 => ?_) (fun hc37 => ?_))
   · have hmz : 1 ≤ (p.mems.getD j aI).words∧(p.mems.getD j aI).words ≤ 4 := (hp.mw j (by omega)).2.1
     have hml : ((s.mems.getD j []).length : Int) = (p.mems.getD j aI).words := hso.mn j (by omega)
     have hme := (hp.mw j (by omega)).2.2.1
     have hmb := (hp.mw j (by omega)).2.2.2
     obtain ⟨va,hma⟩ := hmb.1.1
     have had : 0 ≤ Int.tmod (aZ p s data (p.mems.getD j aI).addr).1 (p.mems.getD j aI).words∧Int.tmod (aZ p s data (p.mems.getD j aI).addr).1 (p.mems.getD j aI).words < (s.mems.getD j []).length∧(p.mems.getD j aI).words ≠ 0 := Br hp hso hda (show j < p.mems.length by omega)
     refine tt ⟨ix,tt ⟨oK,tt ⟨ix,tt ⟨⟨by simp only [List.length_map,List.length_nil]; omega,by simp⟩,tt ⟨(ud p s data ((p.mems.getD j aI).enable) ho hmw hme.1 hme.2),⟨fun hc57 => ?_,fun hc57 => ?_⟩⟩⟩⟩⟩⟩
     · refine tt ⟨(jt ho hmw 2 ((p.mems.getD j aI).addr) _ hma hmb.1.2),tt ⟨om,tt ⟨(jt ho hmw 2 ((p.mems.getD j aI).data) _ hmb.2.1 hmb.2.2),tt ⟨ix,⟨⟨om,by simp only [List.map_set]; rfl⟩,tt ⟨⟨⟨rfl,oK⟩,oK⟩,⟨(bh (by omega) (by first | exact xc hc57 | exact Bq (by rw [hc57]; simp))),tt ⟨w6,tt ⟨(j + 1),rfl,(?_ : (j + 1) ≤ p.mems.length),(?_ : p.mems.length - (j + 1) < p.mems.length - j)⟩⟩⟩⟩⟩⟩⟩⟩⟩
       · omega
       · omega
     · refine tt ⟨⟨⟨rfl,oK⟩,oK⟩,⟨(bh (by omega) (by first | exact xc hc57 | exact Bq (by rw [hc57]; simp))),tt ⟨w6,tt ⟨(j + 1),rfl,(?_ : (j + 1) ≤ p.mems.length),(?_ : p.mems.length - (j + 1) < p.mems.length - j)⟩⟩⟩⟩
       · omega
       · omega
   · refine tt ⟨(congrArg _ (?_ : (tab (fun z => (aZ p s data (p.regs.getD z bG).next).1) i) = ((b6 p s data).regs))),(congrArg _ (?_ : (tab (pQ p s data) j) = ((b6 p s data).mems))),oK⟩
     · rw [show i = p.regs.length by omega]; rfl
     · rw [show j = p.mems.length by omega]; rfl
abbrev Lm (p : Pr) (s : Ps) (hs : List Hd) (rs : List Bool) : Ct := ⟨95,[(Fu p),(.agg (t9 s)),(.agg [(dL 2 bI aO hs),(LB rs)])],true,(.agg [(dB ((aJ p s hs rs).fires)),(LI (((aJ p s hs rs).s).regs)),(dL 1 ac [] (((aJ p s hs rs).s).mems)),(LB ((aJ p s hs rs).pops)),(dL 2 bI aO ((aJ p s hs rs).puts))])⟩
abbrev gK (p : Pr) (s : Ps) (hs : List Hd) (rs : List Bool) : Lp (Nat × Bool) := uN [3,5,6,7,8,9] 16 (fun (i : Nat) (fir : Bool) => ⟨[(3,ll),(5,(.ptr 2 0 0 0)),(6,(.ptr 3 0 0 0)),(7,(.ptr 4 0 0 0)),(8,(.ptr 15 0 0 0)),(9,(i6 (i : Int)))],[(t8 p),(.var 112 (t9 s)),(.var 196 [(dL 2 bI aO hs),(LB rs)]),BV,(BU p s hs),.dead,.dead,.dead,.dead,(.arr 4 1 aF false (List.replicate p.takes.length false)),.dead,.dead,.dead,(.arr 182 2 bI aO (List.replicate p.puts.length aO)),.dead,(.var 179 [(dB fir),(LI s.regs),(dL 1 ac [] s.mems),(.own 9),(.own 13)])]⟩) (fun (i : Nat) (fir : Bool) => i ≤ p.takes.length∧fir = cJ (im p s hs) i) (fun (i : Nat) (fir : Bool) => p.takes.length - i)
abbrev gL (p : Pr) (s : Ps) (hs : List Hd) (rs : List Bool) (fir : Bool) : Lp (Nat × Bool) := uN [3,5,6,7,8,10] 16 (fun (m : Nat) (fi2 : Bool) => ⟨[(3,ll),(5,(.ptr 2 0 0 0)),(6,(.ptr 3 0 0 0)),(7,(.ptr 4 0 0 0)),(8,(.ptr 15 0 0 0)),(10,(i6 (m : Int)))],[(t8 p),(.var 112 (t9 s)),(.var 196 [(dL 2 bI aO hs),(LB rs)]),BV,(BU p s hs),.dead,.dead,.dead,.dead,(.arr 4 1 aF false (List.replicate p.takes.length false)),.dead,.dead,.dead,(.arr 182 2 bI aO (List.replicate p.puts.length aO)),.dead,(.var 179 [(dB fi2),(LI s.regs),(dL 1 ac [] s.mems),(.own 9),(.own 13)])]⟩) (fun (m : Nat) (fi2 : Bool) => m ≤ p.puts.length∧fi2 = (fir && cJ (jR p s hs rs) m)) (fun (m : Nat) (fi2 : Bool) => p.puts.length - m)
abbrev l9 (p : Pr) (s : Ps) (hs : List Hd) (rs : List Bool) (fi2 : Bool) : Lp (Nat × List Bool) := uN [3,6,7,8,11] 16 (fun (q : Nat) (pop : List Bool) => ⟨[(3,ll),(6,(.ptr 3 0 0 0)),(7,(.ptr 4 0 0 0)),(8,(.ptr 15 0 0 0)),(11,(i6 (q : Int)))],[(t8 p),(.var 112 (t9 s)),(.var 196 [(dL 2 bI aO hs),(LB rs)]),BV,(BU p s hs),.dead,.dead,.dead,.dead,(.arr 4 1 aF false pop),.dead,.dead,.dead,(.arr 182 2 bI aO (List.replicate p.puts.length aO)),.dead,(.var 179 [(dB fi2),(LI ((b6 p s (bL p s hs)).regs)),(dL 1 ac [] ((b6 p s (bL p s hs)).mems)),(.own 9),(.own 13)])]⟩) (fun (q : Nat) (pop : List Bool) => q ≤ p.takes.length∧pop = cu (oT p s hs) (List.replicate p.takes.length false) q) (fun (q : Nat) (pop : List Bool) => p.takes.length - q)
abbrev ju (p : Pr) (s : Ps) (hs : List Hd) (rs : List Bool) (fi2 : Bool) (pop : List Bool) : Lp (Nat × List Hd) := uN [3,6,7,8,12] 16 (fun (t : Nat) (put : List Hd) => ⟨[(3,ll),(6,(.ptr 3 0 0 0)),(7,(.ptr 4 0 0 0)),(8,(.ptr 15 0 0 0)),(12,(i6 (t : Int)))],[(t8 p),(.var 112 (t9 s)),(.var 196 [(dL 2 bI aO hs),(LB rs)]),BV,(BU p s hs),.dead,.dead,.dead,.dead,(.arr 4 1 aF false pop),.dead,.dead,.dead,(.arr 182 2 bI aO put),.dead,(.var 179 [(dB fi2),(LI ((b6 p s (bL p s hs)).regs)),(dL 1 ac [] ((b6 p s (bL p s hs)).mems)),(.own 9),(.own 13)])]⟩) (fun (t : Nat) (put : List Hd) => t ≤ p.puts.length∧put = cu (oU p s hs) (List.replicate p.puts.length aO) t) (fun (t : Nat) (put : List Hd) => p.puts.length - t)
theorem Dh (p : Pr) (s : Ps) (hs : List Hd) (rs : List Bool) (hp : gv p) (hso : oW p s) (hh : yC p hs) (hrs : rs.length = p.puts.length) : CC (Lm p s hs rs) := by
 have ht1 := hp.tl
 have ht2 := hp.pl
 have hhl := hh.l
 have hmw := hso.mn
 have ho := fL hp hso (tG (s := s) (hs := hs) hp hh)
 have hda := tG (s := s) (hs := hs) hp hh
 refine af.vc (V := TT 7 (CC (II p s hs rs)∧TT 6 ((((0 : Int) ≤ (p.takes.length : Int)∧(p.takes.length : Int) ≤ (p.takes.length : Int)∧(p.takes.length : Int) ≤ 137438953472)∧(List.replicate p.takes.length false).length = p.takes.length∧∀ x ∈ (List.replicate p.takes.length false),cB [(dB false)] (aF x))∧TT 3 ((((0 : Int) ≤ (p.puts.length : Int)∧(p.puts.length : Int) ≤ (p.puts.length : Int)∧(p.puts.length : Int) ≤ 137438953472)∧(List.replicate p.puts.length aO).length = p.puts.length∧∀ x ∈ (List.replicate p.puts.length aO),cB [(dB false),(i6 0)] (bI x))∧TT 4 (GO (gK p s hs rs) (0,true) (∀ i fir,(gK p s hs rs).inv (i,fir) → TT 5 (CD ((i : Int) < (p.takes.length : Int)) (CS (fir = true) (CS (((hs.getD i aO).has) = true) (TT 2 ((True∧fir = true)∧TT 3 (IX (i : Int) hs.length∧TT 2 ((True∧((hs.getD i aO).has) = true)∧TT 5 (W6 ((i + 1 : Nat) : Int)∧TT 1 (AG (gK p s hs rs) (i,fir) (i + 1,true))))))) (TT 2 ((True∧fir = true)∧TT 3 (IX (i : Int) hs.length∧TT 2 ((True∧((hs.getD i aO).has) = false)∧TT 4 (IX (i : Int) p.takes.length∧TT 2 (CC (nI p s (bL p s hs) ((p.takes.getD i bB).when))∧TT 6 (W6 ((i + 1 : Nat) : Int)∧TT 1 (AG (gK p s hs rs) (i,fir) (i + 1,!(dG p s (bL p s hs) ((p.takes.getD i bB).when)))))))))))) (TT 2 ((True∧fir = false)∧TT 4 (W6 ((i + 1 : Nat) : Int)∧TT 1 (AG (gK p s hs rs) (i,fir) (i + 1,false)))))) (TT 1 (GO (gL p s hs rs fir) (0,fir) (∀ m fi2,(gL p s hs rs fir).inv (m,fi2) → TT 5 (CD ((m : Int) < (p.puts.length : Int)) (CS (fi2 = true) (CS ((rs.getD m false) = true) (TT 2 ((True∧fi2 = true)∧TT 3 (IX (m : Int) rs.length∧TT 1 ((True∧(rs.getD m false) = true)∧TT 5 (W6 ((m + 1 : Nat) : Int)∧TT 1 (AG (gL p s hs rs fir) (m,fi2) (m + 1,true))))))) (TT 2 ((True∧fi2 = true)∧TT 3 (IX (m : Int) rs.length∧TT 1 ((True∧(rs.getD m false) = false)∧TT 4 (IX (m : Int) p.puts.length∧TT 2 (CC (nI p s (bL p s hs) ((p.puts.getD m bf).when))∧TT 6 (W6 ((m + 1 : Nat) : Int)∧TT 1 (AG (gL p s hs rs fir) (m,fi2) (m + 1,!(dG p s (bL p s hs) ((p.puts.getD m bf).when)))))))))))) (TT 2 ((True∧fi2 = false)∧TT 4 (W6 ((m + 1 : Nat) : Int)∧TT 1 (AG (gL p s hs rs fir) (m,fi2) (m + 1,false)))))) (TT 3 (CB (!fi2) (TT 3 (fi2 = ((aJ p s hs rs).fires)∧s.regs.map (ae .i64) = (((aJ p s hs rs).s).regs).map (ae .i64)∧s.mems.map ac = (((aJ p s hs rs).s).mems).map ac∧(List.replicate p.takes.length false).map aF = ((aJ p s hs rs).pops).map aF∧(List.replicate p.puts.length aO).map bI = ((aJ p s hs rs).puts).map bI∧True)) (TT 1 (CC (IJ p s (bL p s hs))∧TT 3 (GO (l9 p s hs rs fi2) (0,List.replicate p.takes.length false) (∀ q pop,(l9 p s hs rs fi2).inv (q,pop) → TT 5 (CD ((q : Int) < (p.takes.length : Int)) (TT 7 (IX (q : Int) p.takes.length∧TT 2 (CC (nI p s (bL p s hs) ((p.takes.getD q bB).when))∧IX (q : Int) pop.length∧(q < pop.length∧(pop.map aF).set q ((aF (pop.getD q false)).take 0 ++ [(.bool (dG p s (bL p s hs) ((p.takes.getD q bB).when)))] ++ (aF (pop.getD q false)).drop (0 + 1)) = (pop.set q (dG p s (bL p s hs) ((p.takes.getD q bB).when))).map aF)∧TT 1 (W6 ((q + 1 : Nat) : Int)∧TT 1 (AG (l9 p s hs rs fi2) (q,pop) (q + 1,pop.set q (dG p s (bL p s hs) ((p.takes.getD q bB).when)))))))) (TT 1 (GO (ju p s hs rs fi2 pop) (0,List.replicate p.puts.length aO) (∀ t put,(ju p s hs rs fi2 pop).inv (t,put) → TT 5 (CD ((t : Int) < (p.puts.length : Int)) (TT 4 (IX (t : Int) p.puts.length∧TT 2 (CC (nI p s (bL p s hs) ((p.puts.getD t bf).when))∧CB (dG p s (bL p s hs) ((p.puts.getD t bf).when)) (TT 7 (IX (t : Int) p.puts.length∧TT 2 (CC (lm p s (bL p s hs) 2 ((p.puts.getD t bf).data))∧TT 2 (IX (t : Int) put.length∧(t < put.length∧(put.map bI).set t ((bI (put.getD t aO)).take 0 ++ [(.bool true),(.int .i64 ((aZ p s (bL p s hs) ((p.puts.getD t bf).data)).1))] ++ (bI (put.getD t aO)).drop (0 + 2)) = (put.set t (⟨true,(aZ p s (bL p s hs) ((p.puts.getD t bf).data)).1⟩ : Hd)).map bI)∧TT 1 (W6 ((t + 1 : Nat) : Int)∧TT 1 (AG (ju p s hs rs fi2 pop) (t,put) (t + 1,put.set t (⟨true,(aZ p s (bL p s hs) ((p.puts.getD t bf).data)).1⟩ : Hd)))))))) (TT 1 (W6 ((t + 1 : Nat) : Int)∧TT 1 (AG (ju p s hs rs fi2 pop) (t,put) (t + 1,put))))))) (TT 3 (fi2 = ((aJ p s hs rs).fires)∧((b6 p s (bL p s hs)).regs).map (ae .i64) = (((aJ p s hs rs).s).regs).map (ae .i64)∧((b6 p s (bL p s hs)).mems).map ac = (((aJ p s hs rs).s).mems).map ac∧pop.map aF = ((aJ p s hs rs).pops).map aF∧put.map bI = ((aJ p s hs rs).puts).map bI∧True)))))))))))))))))))))))) (.w 1 [(3,(II p s hs rs).O)] <| .w 2 [(4,.box 4 1 aF false (List.replicate p.takes.length false)),(8,.box 182 2 bI aO (List.replicate p.puts.length aO))] <| .l (gK p s hs rs) (0,true) (fun ⟨i,fir⟩ => .b 31 (.s 6 (fir = true) (.s 6 (((hs.getD i aO).has) = true) (.w 6 [(2,.val (dB true)),(9,.val (dB true))] <| .w 5 [(1,.val (i6 ((i + 1 : Nat) : Int)))] <| .e) (.w 6 [(2,.val (dB true)),(9,.val (dB false)),(17,(nI p s (bL p s hs) ((p.takes.getD i bB).when)).O)] <| .w 5 [(1,.val (i6 ((i + 1 : Nat) : Int)))] <| .e)) (.w 6 [(2,.val (dB false))] <| .w 5 [(1,.val (i6 ((i + 1 : Nat) : Int)))] <| .e)) (.l (gL p s hs rs fir) (0,fir) (fun ⟨m,fi2⟩ => .b 60 (.s 10 (fi2 = true) (.s 10 ((rs.getD m false) = true) (.w 10 [(2,.val (dB true)),(8,.val (dB true))] <| .w 9 [(1,.val (i6 ((m + 1 : Nat) : Int)))] <| .e) (.w 10 [(2,.val (dB true)),(8,.val (dB false)),(16,(nI p s (bL p s hs) ((p.puts.getD m bf).when)).O)] <| .w 9 [(1,.val (i6 ((m + 1 : Nat) : Int)))] <| .e)) (.w 10 [(2,.val (dB false))] <| .w 9 [(1,.val (i6 ((m + 1 : Nat) : Int)))] <| .e)) (.b 86 (.e) (.w 13 [(1,(IJ p s (bL p s hs)).O)] <| .l (l9 p s hs rs fi2) (0,List.replicate p.takes.length false) (fun ⟨q,pop⟩ => .b 95 (.w 17 [(10,(nI p s (bL p s hs) ((p.takes.getD q bB).when)).O),(12,.box 4 1 aF false (pop.set q (dG p s (bL p s hs) ((p.takes.getD q bB).when))))] <| .w 16 [(1,.val (i6 ((q + 1 : Nat) : Int)))] <| .e) (.l (ju p s hs rs fi2 pop) (0,List.replicate p.puts.length aO) (fun ⟨t,put⟩ => .b 114 (.w 21 [(7,(nI p s (bL p s hs) ((p.puts.getD t bf).when)).O)] <| .b 124 (.w 22 [(10,(lm p s (bL p s hs) 2 ((p.puts.getD t bf).data)).O),(14,.box 182 2 bI aO (put.set t (⟨true,(aZ p s (bL p s hs) ((p.puts.getD t bf).data)).1⟩ : Hd)))] <| .w 20 [(1,.val (i6 ((t + 1 : Nat) : Int)))] <| .e) (.w 20 [(1,.val (i6 ((t + 1 : Nat) : Int)))] <| .e)) (.e)))))))))) Tryz.func95 rfl rfl rfl (by kernel_rfl) ?_
 refine tt ⟨(Ar p s hs rs hp hso hh),tt ⟨⟨by omega,List.length_replicate,fun x hx => by rw [List.eq_of_mem_replicate hx]; exact ⟨rfl,oK⟩⟩,tt ⟨⟨by omega,List.length_replicate,fun x hx => by rw [List.eq_of_mem_replicate hx]; exact ⟨rfl,rfl,oK⟩⟩,tt ⟨rfl,⟨by omega,rfl⟩,?_⟩⟩⟩⟩
 intro i fir hinv
 obtain ⟨hi,hfir⟩ := hinv
 refine tt (cd (fun hc31 => ?_) (fun hc31 => ?_))
 · have hwh := r7 hp (show i < p.takes.length by omega)
   refine ⟨fun hs0 => ?_,fun hs0 => ?_⟩
   · refine ⟨fun hs1 => ?_,fun hs1 => ?_⟩
     · refine tt ⟨(bT hs0),tt ⟨ix,tt ⟨(bT hs1),tt ⟨w6,tt ⟨(i + 1,true),rfl,?_,(?_ : p.takes.length - (i + 1) < p.takes.length - i)⟩⟩⟩⟩⟩
       · exact ⟨by omega,kR hfir _ (by unfold im; clear hfir; cases fir <;> simp_all)⟩
       · omega
     · refine tt ⟨(bT hs0),tt ⟨ix,tt ⟨(bF hs1),tt ⟨ix,tt ⟨(ud p s (bL p s hs) ((p.takes.getD i bB).when) ho hmw hwh.1 hwh.2),tt ⟨w6,tt ⟨(i + 1,!(dG p s (bL p s hs) ((p.takes.getD i bB).when))),rfl,?_,(?_ : p.takes.length - (i + 1) < p.takes.length - i)⟩⟩⟩⟩⟩⟩⟩
       · exact ⟨by omega,kR hfir _ (by unfold im; clear hfir; cases fir <;> simp_all)⟩
       · omega
   · refine tt ⟨(bF hs0),tt ⟨w6,tt ⟨(i + 1,false),rfl,?_,(?_ : p.takes.length - (i + 1) < p.takes.length - i)⟩⟩⟩
     · exact ⟨by omega,kR hfir _ (by unfold im; clear hfir; cases fir <;> simp_all)⟩
     · omega
 · refine tt ⟨rfl,⟨by omega,by simp [cJ]⟩,?_⟩
   intro m fi2 hinv
   obtain ⟨hm,hfi2⟩ := hinv
   refine tt (cd (fun hc60 => ?_) (fun hc60 => ?_))
   · have hpw := hp.pw m (by omega)
     refine ⟨fun hs2 => ?_,fun hs2 => ?_⟩
     · refine ⟨fun hs3 => ?_,fun hs3 => ?_⟩
       · refine tt ⟨(bT hs2),tt ⟨ix,tt ⟨(bT hs3),tt ⟨w6,tt ⟨(m + 1,true),rfl,?_,(?_ : p.puts.length - (m + 1) < p.puts.length - m)⟩⟩⟩⟩⟩
         · exact ⟨by omega,qz hfi2 _ (by unfold jR; clear hfi2 hfir; cases fi2 <;> simp_all)⟩
         · omega
       · refine tt ⟨(bT hs2),tt ⟨ix,tt ⟨(bF hs3),tt ⟨ix,tt ⟨(ud p s (bL p s hs) ((p.puts.getD m bf).when) ho hmw hpw.2.1.1 hpw.2.1.2),tt ⟨w6,tt ⟨(m + 1,!(dG p s (bL p s hs) ((p.puts.getD m bf).when))),rfl,?_,(?_ : p.puts.length - (m + 1) < p.puts.length - m)⟩⟩⟩⟩⟩⟩⟩
         · exact ⟨by omega,qz hfi2 _ (by unfold jR; clear hfi2 hfir; cases fi2 <;> simp_all)⟩
         · omega
     · refine tt ⟨(bF hs2),tt ⟨w6,tt ⟨(m + 1,false),rfl,?_,(?_ : p.puts.length - (m + 1) < p.puts.length - m)⟩⟩⟩
       · exact ⟨by omega,qz hfi2 _ (by unfold jR; clear hfi2 hfir; cases fi2 <;> simp_all)⟩
       · omega
   · have hie : i = p.takes.length := by omega
     have hme : m = p.puts.length := by omega
     refine tt ⟨fun hc86 => ?_,fun hc86 => ?_⟩
     · refine tt ⟨?_,(congrArg _ (?_ : s.regs = (((aJ p s hs rs).s).regs))),(congrArg _ (?_ : s.mems = (((aJ p s hs rs).s).mems))),(congrArg _ (?_ : (List.replicate p.takes.length false) = ((aJ p s hs rs).pops))),(congrArg _ (?_ : (List.replicate p.puts.length aO) = ((aJ p s hs rs).puts))),oK⟩
       all_goals
         rw [Bn (by rw [lO (rs := rs) (a := fir) (b := fi2) (by rw [hfir,hie]) (by rw [hfi2,hme])]; simpa using hc86)]
         first | done | rfl | simpa using hc86
     · refine tt ⟨(Fx p s (bL p s hs) hp hso hda),tt ⟨rfl,⟨by omega,rfl⟩,?_⟩⟩
       intro q pop hinv
       obtain ⟨hq,hpop⟩ := hinv
       have hpl : pop.length = p.takes.length := by rw [hpop,dT (by rw [List.length_replicate]; exact hq),List.length_replicate]
       refine tt (cd (fun hc95 => ?_) (fun hc95 => ?_))
       · have hwh := r7 hp (show q < p.takes.length by omega)
         refine tt ⟨ix,tt ⟨(ud p s (bL p s hs) ((p.takes.getD q bB).when) ho hmw hwh.1 hwh.2),⟨ix,⟨⟨om,by simp only [List.map_set]; rfl⟩,tt ⟨w6,tt ⟨(q + 1,pop.set q (dG p s (bL p s hs) ((p.takes.getD q bB).when))),rfl,?_,(?_ : p.takes.length - (q + 1) < p.takes.length - q)⟩⟩⟩⟩⟩⟩
         · exact ⟨by omega,by rw [hpop]; exact bX (by rw [List.length_replicate]; omega) rfl⟩
         · omega
       · refine tt ⟨rfl,⟨by omega,rfl⟩,?_⟩
         intro t put hinv
         obtain ⟨ht,hput⟩ := hinv
         have hql : put.length = p.puts.length := by rw [hput,dT (by rw [List.length_replicate]; exact ht),List.length_replicate]
         refine tt (cd (fun hc114 => ?_) (fun hc114 => ?_))
         · have hpw := hp.pw t (by omega)
           refine tt ⟨ix,tt ⟨(ud p s (bL p s hs) ((p.puts.getD t bf).when) ho hmw hpw.2.1.1 hpw.2.1.2),⟨fun hc124 => ?_,fun hc124 => ?_⟩⟩⟩
           · refine tt ⟨ix,tt ⟨(jt ho hmw 2 ((p.puts.getD t bf).data) _ hpw.2.2.1 hpw.2.2.2),tt ⟨ix,⟨⟨om,by simp only [List.map_set]; rfl⟩,tt ⟨w6,tt ⟨(t + 1,put.set t (⟨true,(aZ p s (bL p s hs) ((p.puts.getD t bf).data)).1⟩ : Hd)),rfl,?_,(?_ : p.puts.length - (t + 1) < p.puts.length - t)⟩⟩⟩⟩⟩⟩
             · exact ⟨by omega,by rw [hput]; exact bX (by rw [List.length_replicate]; omega) (if_pos hc124)⟩
             · omega
           · refine tt ⟨w6,tt ⟨(t + 1,put),rfl,?_,(?_ : p.puts.length - (t + 1) < p.puts.length - t)⟩⟩
             · exact ⟨by omega,by rw [hput]; exact bZ (d := aO) (by rw [List.length_replicate]; omega) ((if_neg (by rw [hc124]; simp)).trans b7.symm)⟩
             · omega
         · refine tt ⟨?_,(congrArg _ (?_ : ((b6 p s (bL p s hs)).regs) = (((aJ p s hs rs).s).regs))),(congrArg _ (?_ : ((b6 p s (bL p s hs)).mems) = (((aJ p s hs rs).s).mems))),(congrArg _ (?_ : pop = ((aJ p s hs rs).pops))),(congrArg _ (?_ : put = ((aJ p s hs rs).puts))),oK⟩
           all_goals
             rw [w9 (by rw [lO (rs := rs) (a := fir) (b := fi2) (by rw [hfir,hie]) (by rw [hfi2,hme])]; simpa using hc86)]
             first | done | (simpa using hc86) | (rw [hpop,show q = p.takes.length by omega,cS (by rw [List.length_replicate]; exact Nat.le_refl _)]) | (rw [hput,show t = p.puts.length by omega,cS (by rw [List.length_replicate]; exact Nat.le_refl _)])
abbrev G5 (a b : List Int) : Ct := ⟨59,[(LI a),(LI b)],false,(dB (decide (a = b)))⟩
abbrev sr (a : List Int) (b : List Int) : Lp (Nat) := f6 [0,1,5] 0 (fun (k : Nat) => ⟨[(0,(LI a)),(1,(LI b)),(5,(i6 (k : Int)))],[]⟩) (fun (k : Nat) => k ≤ a.length∧∀ z,z < k → a.getD z 0 = b.getD z 0) (fun (k : Nat) => a.length - k)
theorem ss (a b : List Int) (ha : a.length ≤ 9223372036854775807) : CC (G5 a b) := by
 refine af.vc (V := TT 6 (CN ((a.length : Int) = (b.length : Int)) (TT 2 (false = (decide (a = b))∧True)) (TT 1 (GO (sr a b) 0 (∀ k,(sr a b).inv k → TT 4 (CD ((k : Int) < (a.length : Int)) (TT 2 (IX (k : Int) a.length∧TT 3 (IX (k : Int) b.length∧TT 2 (CN ((a.getD k 0) = (b.getD k 0)) (TT 2 (false = (decide (a = b))∧True)) (TT 1 (W6 ((k + 1 : Nat) : Int)∧TT 1 (AG (sr a b) k (k + 1)))))))) (TT 2 (true = (decide (a = b))∧True)))))))) (.b 10 (.e) (.l (sr a b) 0 (fun k => .b 14 (.b 25 (.e) (.w 5 [(1,.val (i6 ((k + 1 : Nat) : Int)))] <| .e)) (.e)))) Tryz.func59 rfl rfl rfl (by kernel_rfl) ?_
 refine tt (cn (fun hc10 => ?_) (fun hc10 => ?_))
 · refine tt ⟨?_,oK⟩
   first | exact (decide_eq_false (fun e => by subst e; omega)).symm | exact (decide_eq_false (same_no (k := k) (by simpa using hc25))).symm | exact (decide_eq_true (dk (by omega) (by omega) hall)).symm
 · refine tt ⟨rfl,⟨by omega,fun z hz => by omega⟩,?_⟩
   intro k hinv
   obtain ⟨hk,hall⟩ := hinv
   refine tt (cd (fun hc14 => ?_) (fun hc14 => ?_))
   · refine tt ⟨ix,tt ⟨ix,tt (cn (fun hc25 => ?_) (fun hc25 => ?_))⟩⟩
     · refine tt ⟨?_,oK⟩
       first | exact (decide_eq_false (fun e => by subst e; omega)).symm | exact (decide_eq_false (same_no (k := k) (by simpa using hc25))).symm | exact (decide_eq_true (dk (by omega) (by omega) hall)).symm
     · refine tt ⟨w6,tt ⟨(k + 1),rfl,?_,(?_ : a.length - (k + 1) < a.length - k)⟩⟩
       · exact ⟨by omega,bH hall (by simpa using hc25)⟩
       · omega
   · refine tt ⟨?_,oK⟩
     first | exact (decide_eq_false (fun e => by subst e; omega)).symm | exact (decide_eq_false (same_no (k := k) (by simpa using hc25))).symm | exact (decide_eq_true (dk (by omega) (by omega) hall)).symm
abbrev Ln (a b : Ps) : Ct := ⟨58,[(.agg [(LI a.regs),(dL 1 ac [] a.mems)]),(.agg [(LI b.regs),(dL 1 ac [] b.mems)])],false,(dB (dq a b))⟩
abbrev ma (a : Ps) (b : Ps) : Lp (Nat) := f6 [2,3,5] 2 (fun (k : Nat) => ⟨[(2,ll),(3,(.ptr 1 0 0 0)),(5,(i6 (k : Int)))],[(.var 112 [(LI a.regs),(dL 1 ac [] a.mems)]),(.var 112 [(LI b.regs),(dL 1 ac [] b.mems)])]⟩) (fun (k : Nat) => k ≤ a.mems.length∧∀ z,z < k → a.mems.getD z [] = b.mems.getD z []) (fun (k : Nat) => a.mems.length - k)
theorem Di (a b : Ps) (ha : a.regs.length ≤ 9223372036854775807) (hb : a.mems.length ≤ 9223372036854775807) (hc : ∀ i,(a.mems.getD i []).length ≤ 9223372036854775807) : CC (Ln a b) := by
 refine af.vc (V := TT 3 (CS (a.regs = b.regs) (TT 4 (CC (G5 a.regs b.regs)∧TT 1 ((True∧(!decide (a.regs = b.regs)) = false)∧TT 8 (CN ((a.mems.length : Int) = (b.mems.length : Int)) (TT 2 (false = (dq a b)∧True)) (TT 1 (GO (ma a b) 0 (∀ k,(ma a b).inv k → TT 5 (CD ((k : Int) < (a.mems.length : Int)) (TT 3 (IX (k : Int) a.mems.length∧TT 4 (IX (k : Int) b.mems.length∧TT 1 (CC (G5 (a.mems.getD k []) (b.mems.getD k []))∧TT 1 (CN ((a.mems.getD k []) = (b.mems.getD k [])) (TT 2 (false = (dq a b)∧True)) (TT 1 (W6 ((k + 1 : Nat) : Int)∧TT 1 (AG (ma a b) k (k + 1))))))))) (TT 2 (true = (dq a b)∧True)))))))))) (TT 4 (CC (G5 a.regs b.regs)∧TT 1 ((True∧(!decide (a.regs = b.regs)) = true)∧TT 10 (false = (dq a b)∧True)))))) (.s 1 (a.regs = b.regs) (.w 1 [(4,(G5 a.regs b.regs).O),(6,.val (dB false))] <| .b 20 (.e) (.l (ma a b) 0 (fun k => .b 25 (.w 6 [(10,(G5 (a.mems.getD k []) (b.mems.getD k [])).O)] <| .b 39 (.e) (.w 5 [(1,.val (i6 ((k + 1 : Nat) : Int)))] <| .e)) (.e)))) (.w 1 [(4,(G5 a.regs b.regs).O),(6,.val (dB true))] <| .e)) Tryz.func58 rfl rfl rfl (by kernel_rfl) ?_
 refine tt ⟨fun hs0 => ?_,fun hs0 => ?_⟩
 · refine tt ⟨(ss a.regs b.regs ha),tt ⟨(nF hs0),tt (cn (fun hc20 => ?_) (fun hc20 => ?_))⟩⟩
   · refine tt ⟨?_,oK⟩
     first | exact (jS (by simpa using hs0)).symm | exact (jT (by omega)).symm | exact (jU (i := k) (by simpa using hc39)).symm | exact (jV (by simpa using hs0) (dk (by omega) (by omega) hall)).symm
   · refine tt ⟨rfl,⟨by omega,fun z hz => by omega⟩,?_⟩
     intro k hinv
     obtain ⟨hk,hall⟩ := hinv
     refine tt (cd (fun hc25 => ?_) (fun hc25 => ?_))
     · refine tt ⟨ix,tt ⟨ix,tt ⟨(ss (a.mems.getD k []) (b.mems.getD k []) (hc k)),tt (cn (fun hc39 => ?_) (fun hc39 => ?_))⟩⟩⟩
       · refine tt ⟨?_,oK⟩
         first | exact (jS (by simpa using hs0)).symm | exact (jT (by omega)).symm | exact (jU (i := k) (by simpa using hc39)).symm | exact (jV (by simpa using hs0) (dk (by omega) (by omega) hall)).symm
       · refine tt ⟨w6,tt ⟨(k + 1),rfl,?_,(?_ : a.mems.length - (k + 1) < a.mems.length - k)⟩⟩
         · exact ⟨by omega,bH hall (by simpa using hc39)⟩
         · omega
     · refine tt ⟨?_,oK⟩
       first | exact (jS (by simpa using hs0)).symm | exact (jT (by omega)).symm | exact (jU (i := k) (by simpa using hc39)).symm | exact (jV (by simpa using hs0) (dk (by omega) (by omega) hall)).symm
 · refine tt ⟨(ss a.regs b.regs ha),tt ⟨(nT hs0),tt ⟨?_,oK⟩⟩⟩
   first | exact (jS (by simpa using hs0)).symm | exact (jT (by omega)).symm | exact (jU (i := k) (by simpa using hc39)).symm | exact (jV (by simpa using hs0) (dk (by omega) (by omega) hall)).symm
end Go.Proofs.YtgmpoenfoacofaaGreat
