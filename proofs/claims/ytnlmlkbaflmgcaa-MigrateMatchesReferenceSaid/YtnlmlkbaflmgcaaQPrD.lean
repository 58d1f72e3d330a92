/-
  The reference of package process.
-/
import Derived.WalkKit
import Derived.Test.YtnlmlkbaflmgcaaQVrA
namespace Go.Proofs.Ytnlmlkbaflmgcaa
open Go.RowKit
set_option linter.unusedVariables false
set_option linter.unusedSimpArgs false
abbrev sF (p : Pr) : aE := (.var 80 [(dS p.name),(dS p.clock),(dL 13 bA aC p.regs),(dL 27 bX au p.mems),(dL 9 cP bB p.takes),(dL 16 cN bK p.puts)])
abbrev AQ (p : Pr) (s : Ps) (hs : List Hd) : aE := (.var 179 [(dS p.name),(dS p.clock),(dL 13 bA aC p.regs),(dL 27 bX au p.mems),(dL 9 cP bB p.takes),(dL 16 cN bK p.puts),(LI s.regs),(dL 1 ab [] s.mems),(LI (bN p s hs))])
abbrev EP (p : Pr) : D := (.agg [(dS p.name),(dS p.clock),(dL 13 bA aC p.regs),(dL 27 bX au p.mems),(dL 9 cP bB p.takes),(dL 16 cN bK p.puts)])
abbrev ER (p : Pr) (s : Ps) (data : List Int) : aE := (.var 179 [(dS p.name),(dS p.clock),(dL 13 bA aC p.regs),(dL 27 bX au p.mems),(dL 9 cP bB p.takes),(dL 16 cN bK p.puts),(LI s.regs),(dL 1 ab [] s.mems),(LI data)])
abbrev ES (p : Pr) (s : Ps) (data : List Int) : D := (.agg [(dS p.name),(dS p.clock),(dL 13 bA aC p.regs),(dL 27 bX au p.mems),(dL 9 cP bB p.takes),(dL 16 cN bK p.puts),(LI s.regs),(dL 1 ab [] s.mems),(LI data)])
abbrev sG (s : Ps) : List D := [(LI s.regs),(dL 1 ab [] s.mems)]
abbrev AR : aE := (.var 167 [(dB false),.nils,.nils,.nils,.nils])
abbrev lk : D := (.ptr 0 0 0 0)
set_option maxRecDepth 100000
abbrev Lw (p : Pr) : Ct := ⟨80,[(EP p)],true,(.agg [(LI ((bo p).regs)),(dL 1 ab [] ((bo p).mems))])⟩
abbrev l8 (p : Pr) : Lp (Nat) := fB [1,2,3,4] 4 (fun (i : Nat) => ⟨[(1,lk),(2,(.ptr 1 0 0 0)),(3,(.ptr 2 0 0 0)),(4,(i6 (i : Int)))],[(sF p),(.var 74 [.nils,.nils]),(.var 74 [(.own 3),.nils]),(.arr 3 1 (aa .i64) 0 (tab (fun z => (p.regs.getD z aC).init) i))]⟩) (fun (i : Nat) => i ≤ p.regs.length) (fun (i : Nat) => p.regs.length - i)
abbrev l9 (p : Pr) (i : Nat) : Lp (Nat) := fB [1,2,3,5] 5 (fun (j : Nat) => ⟨[(1,lk),(2,(.ptr 1 0 0 0)),(3,(.ptr 2 0 0 0)),(5,(i6 (j : Int)))],[(sF p),(.var 74 [.nils,.nils]),(.var 74 [(.own 3),(.own 4)]),(.arr 3 1 (aa .i64) 0 (tab (fun z => (p.regs.getD z aC).init) i)),(.arr 54 1 ab [] (tab (fun z => List.replicate (p.mems.getD z au).words.toNat (0 : Int)) j))]⟩) (fun (j : Nat) => j ≤ p.mems.length) (fun (j : Nat) => p.mems.length - j)
theorem BZ (p : Pr) (hp : im p) : CC (Lw p) := by
 have hl1 := hp.rl
 have hl2 := hp.ml
 refine ap.vc (V := TT 6 (GO (l8 p) 0 (∀ i,(l8 p).inv i → TT 5 (CD ((i : Int) < (p.regs.length : Int)) (TT 5 (IX (i : Int) p.regs.length∧TT 2 (ai [[(i6 ((p.regs.getD i aC).init))]] ([(p.regs.getD i aC).init].map (aa .i64))∧((tab (fun z => (p.regs.getD z aC).init) i).length + ([(p.regs.getD i aC).init].map (aa .i64)).length ≤ 137438953472∧(tab (fun z => (p.regs.getD z aC).init) i).map (aa .i64) ++ [(p.regs.getD i aC).init].map (aa .i64) = (tab (fun z => (p.regs.getD z aC).init) (i + 1)).map (aa .i64))∧TT 3 (W6 ((i + 1 : Nat) : Int)∧TT 1 (AG (l8 p) i (i + 1)))))) (TT 1 (GO (l9 p i) 0 (∀ j,(l9 p i).inv j → TT 5 (CD ((j : Int) < (p.mems.length : Int)) (TT 5 (IX (j : Int) p.mems.length∧TT 2 ((((0 : Int) ≤ (p.mems.getD j au).words∧(p.mems.getD j au).words ≤ (p.mems.getD j au).words∧(p.mems.getD j au).words ≤ 137438953472)∧(List.replicate (p.mems.getD j au).words.toNat (0 : Int)).length = ((p.mems.getD j au).words).toNat∧∀ x ∈ (List.replicate (p.mems.getD j au).words.toNat (0 : Int)),dy [(i6 0)] ((aa .i64) x))∧ai [[(LI (List.replicate (p.mems.getD j au).words.toNat (0 : Int)))]] ([List.replicate (p.mems.getD j au).words.toNat (0 : Int)].map ab)∧((tab (fun z => List.replicate (p.mems.getD z au).words.toNat (0 : Int)) j).length + ([List.replicate (p.mems.getD j au).words.toNat (0 : Int)].map ab).length ≤ 137438953472∧(tab (fun z => List.replicate (p.mems.getD z au).words.toNat (0 : Int)) j).map ab ++ [List.replicate (p.mems.getD j au).words.toNat (0 : Int)].map ab = (tab (fun z => List.replicate (p.mems.getD z au).words.toNat (0 : Int)) (j + 1)).map ab)∧TT 3 (W6 ((j + 1 : Nat) : Int)∧TT 1 (AG (l9 p i) j (j + 1)))))) (TT 3 ((tab (fun z => (p.regs.getD z aC).init) i).map (aa .i64) = ((bo p).regs).map (aa .i64)∧(tab (fun z => List.replicate (p.mems.getD z au).words.toNat (0 : Int)) j).map ab = ((bo p).mems).map ab∧True)))))))))) (.g 2 2 0 3 1 (aa .i64) 0 <| .l (l8 p) 0 (fun i => .b 11 (.w 5 [(8,.box 3 1 (aa .i64) 0 [(p.regs.getD i aC).init]),(9,.box 3 1 (aa .i64) 0 (tab (fun z => (p.regs.getD z aC).init) (i + 1)))] <| .w 4 [(1,.val (i6 ((i + 1 : Nat) : Int)))] <| .e) (.g 6 2 1 54 1 ab [] <| .l (l9 p i) 0 (fun j => .b 29 (.w 9 [(8,.frz 3 1 (aa .i64) 0 (List.replicate (p.mems.getD j au).words.toNat (0 : Int))),(9,.box 54 1 ab [] [List.replicate (p.mems.getD j au).words.toNat (0 : Int)]),(10,.box 54 1 ab [] (tab (fun z => List.replicate (p.mems.getD z au).words.toNat (0 : Int)) (j + 1)))] <| .w 8 [(1,.val (i6 ((j + 1 : Nat) : Int)))] <| .e) (.e))))) Try.func80 rfl rfl rfl (by kernel_rfl) ?_
 refine tt ⟨rfl,(by omega),?_⟩
 intro i hinv
 have hi := hinv
 refine tt (cd (fun hc11 => ?_) (fun hc11 => ?_))
 · refine tt ⟨ix,tt ⟨⟨⟨rfl,oK⟩,oK⟩,⟨(oz (f := fun z => (p.regs.getD z aC).init) (by omega)),tt ⟨w6,tt ⟨(i + 1),rfl,(?_ : (i + 1) ≤ p.regs.length),(?_ : p.regs.length - (i + 1) < p.regs.length - i)⟩⟩⟩⟩⟩
   · omega
   · omega
 · refine tt ⟨rfl,(by omega),?_⟩
   intro j hinv
   have hj := hinv
   refine tt (cd (fun hc29 => ?_) (fun hc29 => ?_))
   · have hmw : 1 ≤ (p.mems.getD j au).words∧(p.mems.getD j au).words ≤ 4 := (hp.mw j (by omega)).2.1
     refine tt ⟨ix,tt ⟨⟨by omega,List.length_replicate,fun x hx => by rw [List.eq_of_mem_replicate hx]; exact ⟨rfl,oK⟩⟩,⟨⟨⟨rfl,oK⟩,oK⟩,⟨(oz (f := fun z => List.replicate (p.mems.getD z au).words.toNat (0 : Int)) (by omega)),tt ⟨w6,tt ⟨(j + 1),rfl,(?_ : (j + 1) ≤ p.mems.length),(?_ : p.mems.length - (j + 1) < p.mems.length - j)⟩⟩⟩⟩⟩⟩
     · omega
     · omega
   · refine tt ⟨(congrArg _ (?_ : (tab (fun z => (p.regs.getD z aC).init) i) = ((bo p).regs))),(congrArg _ (?_ : (tab (fun z => List.replicate (p.mems.getD z au).words.toNat (0 : Int)) j) = ((bo p).mems))),oK⟩
     · rw [wW,show i = p.regs.length by omega]
     · rw [wW,show j = p.mems.length by omega]
abbrev ll (p : Pr) (s : Ps) (data : List Int) (n : Nat) (e : Ex) : Ct := ⟨103,[(ES p s data),(.agg [(i6 e.op),(dS e.name),(i6 e.k.n),(dS e.k.p),(i6 e.w.n),(dS e.w.p),(dL 7 (eA n) dE e.args)])],false,(.agg [(i6 ((bx p s data e).1)),(i6 ((bx p s data e).2))])⟩
abbrev qP (p : Pr) (s : Ps) (data : List Int) (n : Nat) (e : Ex) : Lp (Nat) := fB [2,3,4,7,8,9] 5 (fun (i : Nat) => ⟨[(2,lk),(3,(.ptr 1 0 0 0)),(4,(.ptr 2 0 0 0)),(7,(.own 3)),(8,(.own 4)),(9,(i6 (i : Int)))],[(ER p s data),(.var 64 [(i6 e.op),(dS e.name),(i6 e.k.n),(dS e.k.p),(i6 e.w.n),(dS e.w.p),(dL 7 (eA (n + 1)) dE e.args)]),(.var 184 [(i6 0),(i6 0)]),(.arr 3 1 (aa .i64) 0 (iQ p s data (e.args.take i))),(.arr 3 1 (aa .i64) 0 (fv p s data (e.args.take i)))]⟩) (fun (i : Nat) => i ≤ e.args.length) (fun (i : Nat) => e.args.length - i)
theorem AU (p : Pr) (s : Ps) (data : List Int) (n : Nat) (e : Ex) (c : Sc) (v : Int) (ho : s4 c p s data) (ht : dA c e = some v) (hmw : ∀ i,i < p.mems.length → ((s.mems.getD i []).length : Int) = (p.mems.getD i au).words) (ih : ∀ a ∈ e.args,CC (ll p s data n a)) : CC (ll p s data (n + 1) e) := by
 have hal := HC ht
 refine ap.vc (V := TT 7 (CD (e.op = 16) (TT 6 (IX e.k.n s.regs.length∧TT 7 (IX e.k.n p.regs.length∧TT 5 ((((s.regs.getD e.k.n.toNat 0) = ((bx p s data e).1)∧((p.regs.getD e.k.n.toNat aC).w) = ((bx p s data e).2)∧True))∧((True∧True∧True)))))) (TT 2 (CD (e.op = 17) (TT 6 (IX e.k.n p.mems.length∧TT 6 (IX 0 e.args.length∧TT 1 (CC (ll p s data n (e.args.getD 0 dE))∧TT 8 (IX e.k.n s.mems.length∧TT 5 ((((p.mems.getD e.k.n.toNat au).words) ≠ 0∧(Int.tmod ((bx p s data (e.args.getD 0 dE)).1) ((p.mems.getD e.k.n.toNat au).words)) = (Int.tmod (bx p s data (e.args.getD 0 dE)).1 ((s.mems.getD e.k.n.toNat []).length : Int)))∧IX (Int.tmod (bx p s data (e.args.getD 0 dE)).1 ((s.mems.getD e.k.n.toNat []).length : Int)) ((s.mems.getD e.k.n.toNat []).length)∧TT 6 (((((s.mems.getD e.k.n.toNat []).getD ((Int.tmod (bx p s data (e.args.getD 0 dE)).1 ((s.mems.getD e.k.n.toNat []).length : Int)).toNat) 0) = ((bx p s data e).1)∧((p.mems.getD e.k.n.toNat au).w) = ((bx p s data e).2)∧True))∧((True∧True∧True))))))))) (TT 2 (CD (e.op = 18) (TT 5 (IX e.k.n data.length∧TT 7 (IX e.k.n p.takes.length∧TT 5 ((((data.getD e.k.n.toNat 0) = ((bx p s data e).1)∧((p.takes.getD e.k.n.toNat bB).w) = ((bx p s data e).2)∧True))∧((True∧True∧True)))))) (ai [] ((iQ p s data (e.args.take 0)).map (aa .i64))∧ai [] ((fv p s data (e.args.take 0)).map (aa .i64))∧TT 3 (GO (qP p s data n e) 0 (∀ i,(qP p s data n e).inv i → TT 5 (CD ((i : Int) < (e.args.length : Int)) (TT 4 (IX (i : Int) e.args.length∧TT 1 (CC (ll p s data n (e.args.getD i dE))∧TT 5 (ai [[(i6 ((bx p s data (e.args.getD i dE)).1))]] ([(bx p s data (e.args.getD i dE)).1].map (aa .i64))∧((iQ p s data (e.args.take i)).length + ([(bx p s data (e.args.getD i dE)).1].map (aa .i64)).length ≤ 137438953472∧(iQ p s data (e.args.take i)).map (aa .i64) ++ [(bx p s data (e.args.getD i dE)).1].map (aa .i64) = (iQ p s data (e.args.take (i + 1))).map (aa .i64))∧TT 4 (ai [[(i6 ((bx p s data (e.args.getD i dE)).2))]] ([(bx p s data (e.args.getD i dE)).2].map (aa .i64))∧((fv p s data (e.args.take i)).length + ([(bx p s data (e.args.getD i dE)).2].map (aa .i64)).length ≤ 137438953472∧(fv p s data (e.args.take i)).map (aa .i64) ++ [(bx p s data (e.args.getD i dE)).2].map (aa .i64) = (fv p s data (e.args.take (i + 1))).map (aa .i64))∧TT 2 (W6 ((i + 1 : Nat) : Int)∧TT 1 (AG (qP p s data n e) i (i + 1)))))))) (TT 10 (CK (EN e.op (fv p s data (e.args.take i)) e.k.n e.w.n)∧TT 12 (ai [[(i6 e.k.n)],[(i6 e.w.n)]] ([e.k.n,e.w.n].map (aa .i64))∧TT 1 (CK (IL e.op (fv p s data (e.args.take i)) (iQ p s data (e.args.take i)) [e.k.n,e.w.n])∧TT 9 ((((ft e.op (fv p s data (e.args.take i)) (iQ p s data (e.args.take i)) [e.k.n,e.w.n]) = ((bx p s data e).1)∧(cx e.op (fv p s data (e.args.take i)) e.k.n e.w.n) = ((bx p s data e).2)∧True))∧((True∧True∧True))))))))))))))))) (.b 15 (.e) (.b 35 (.w 6 [(5,(ll p s data n (e.args.getD 0 dE)).O)] <| .w 7 [(12,.val (i6 (Int.tmod (bx p s data (e.args.getD 0 dE)).1 ((s.mems.getD e.k.n.toNat []).length : Int))))] <| .e) (.b 69 (.e) (.w 10 [(0,.box 3 1 (aa .i64) 0 (iQ p s data (e.args.take 0))),(1,.box 3 1 (aa .i64) 0 (fv p s data (e.args.take 0)))] <| .l (qP p s data n e) 0 (fun i => .b 94 (.w 14 [(6,(ll p s data n (e.args.getD i dE)).O)] <| .w 15 [(3,.box 3 1 (aa .i64) 0 [(bx p s data (e.args.getD i dE)).1]),(4,.box 3 1 (aa .i64) 0 (iQ p s data (e.args.take (i + 1))))] <| .w 16 [(3,.box 3 1 (aa .i64) 0 [(bx p s data (e.args.getD i dE)).2]),(4,.box 3 1 (aa .i64) 0 (fv p s data (e.args.take (i + 1))))] <| .w 13 [(1,.val (i6 ((i + 1 : Nat) : Int)))] <| .e) (.w 17 [(10,(EN e.op (fv p s data (e.args.take i)) e.k.n e.w.n).O')] <| .w 18 [(10,.box 3 1 (aa .i64) 0 [e.k.n,e.w.n]),(12,(IL e.op (fv p s data (e.args.take i)) (iQ p s data (e.args.take i)) [e.k.n,e.w.n]).O')] <| .e)))))) Try.func103 rfl rfl rfl (by kernel_rfl) ?_
 refine tt (cd (fun hc15 => ?_) (fun hc15 => ?_))
 · obtain ⟨h1,h2,h3⟩ := HD ho ht hc15
   refine tt ⟨ix,tt ⟨ix,tt ⟨⟨?_,?_,oK⟩,⟨oK,oK,oK⟩⟩⟩⟩
   all_goals (first | exact (kT hc15).1.symm | exact (kT hc15).2.symm | exact (iZ hc69).1.symm | exact (iZ hc69).2.symm | exact (i1 hc35 hlen).1.symm | exact (i1 hc35 hlen).2.symm | (rw [hie,List.take_length]; exact (pX hc15 hc69 hc35).1.symm) | (rw [hie,List.take_length]; exact (pX hc15 hc69 hc35).2.symm))
 · refine tt (cd (fun hc35 => ?_) (fun hc35 => ?_))
   · obtain ⟨h1,h2,h3,hlen,h4,h5,h6⟩ := FF ho ht hc35
     have hpw : (p.mems.getD e.k.n.toNat au).words = ((s.mems.getD e.k.n.toNat []).length : Int) := (hmw _ (by omega)).symm
     have hz : (s.mems.getD e.k.n.toNat []).length ≠ 0 := by omega
     refine tt ⟨ix,tt ⟨ix,tt ⟨(ih _ (lI (by omega))),tt ⟨ix,tt ⟨⟨(by omega),(by rw [hpw])⟩,⟨ix,tt ⟨⟨?_,?_,oK⟩,⟨oK,oK,oK⟩⟩⟩⟩⟩⟩⟩⟩
     all_goals (first | exact (kT hc15).1.symm | exact (kT hc15).2.symm | exact (iZ hc69).1.symm | exact (iZ hc69).2.symm | exact (i1 hc35 hlen).1.symm | exact (i1 hc35 hlen).2.symm | (rw [hie,List.take_length]; exact (pX hc15 hc69 hc35).1.symm) | (rw [hie,List.take_length]; exact (pX hc15 hc69 hc35).2.symm))
   · refine tt (cd (fun hc69 => ?_) (fun hc69 => ?_))
     · obtain ⟨h1,h2,h3⟩ := FE ho ht hc69
       refine tt ⟨ix,tt ⟨ix,tt ⟨⟨?_,?_,oK⟩,⟨oK,oK,oK⟩⟩⟩⟩
       all_goals (first | exact (kT hc15).1.symm | exact (kT hc15).2.symm | exact (iZ hc69).1.symm | exact (iZ hc69).2.symm | exact (i1 hc35 hlen).1.symm | exact (i1 hc35 hlen).2.symm | (rw [hie,List.take_length]; exact (pX hc15 hc69 hc35).1.symm) | (rw [hie,List.take_length]; exact (pX hc15 hc69 hc35).2.symm))
     · refine ⟨oK,⟨oK,tt ⟨rfl,(by omega),?_⟩⟩⟩
       intro i hinv
       have hi := hinv
       refine tt (cd (fun hc94 => ?_) (fun hc94 => ?_))
       · refine tt ⟨ix,tt ⟨(ih _ (lI (by omega))),tt ⟨⟨⟨rfl,oK⟩,oK⟩,⟨⟨by simp only [List.length_map,List.length_cons,List.length_nil]; rw [wN,List.length_take]; omega,by rw [Bs (by omega),List.map_append]⟩,tt ⟨⟨⟨rfl,oK⟩,oK⟩,⟨⟨by simp only [List.length_map,List.length_cons,List.length_nil]; rw [wO,List.length_take]; omega,by rw [Bt (by omega),List.map_append]⟩,tt ⟨w6,tt ⟨(i + 1),rfl,(?_ : (i + 1) ≤ e.args.length),(?_ : e.args.length - (i + 1) < e.args.length - i)⟩⟩⟩⟩⟩⟩⟩⟩
         · omega
         · omega
       · have hie : i = e.args.length := by omega
         have hev := DF ho ht hc15 hc35 hc69
         have hev1 : iP e.op (fv p s data (e.args.take i)) e.k.n e.w.n = true := by rw [hie,List.take_length]; exact hev.1
         have hev2 : Bn (fv p s data (e.args.take i)) (iQ p s data (e.args.take i)) = true := by rw [hie,List.take_length]; exact hev.2
         refine tt ⟨⟨kR _ rfl,(sE e.op (fv p s data (e.args.take i)) e.k.n e.w.n hev1)⟩,tt ⟨⟨⟨rfl,oK⟩,⟨rfl,oK⟩,oK⟩,tt ⟨⟨kR _ rfl,(yU e.op (fv p s data (e.args.take i)) (iQ p s data (e.args.take i)) [e.k.n,e.w.n] hev1 (by rw [wN,wO]) hev2 rfl)⟩,tt ⟨⟨?_,?_,oK⟩,⟨oK,oK,oK⟩⟩⟩⟩⟩
         all_goals (first | exact (kT hc15).1.symm | exact (kT hc15).2.symm | exact (iZ hc69).1.symm | exact (iZ hc69).2.symm | exact (i1 hc35 hlen).1.symm | exact (i1 hc35 hlen).2.symm | (rw [hie,List.take_length]; exact (pX hc15 hc69 hc35).1.symm) | (rw [hie,List.take_length]; exact (pX hc15 hc69 hc35).2.symm))
theorem jF {c : Sc} {p : Pr} {s : Ps} {data : List Int} (ho : s4 c p s data) (hmw : ∀ i,i < p.mems.length → ((s.mems.getD i []).length : Int) = (p.mems.getD i au).words) : ∀ (n : Nat) (e : Ex) (v : Int),dA c e = some v → eI e ≤ n + 1 → CC (ll p s data n e)
  | 0,e,v,ht,hd => by
    have ha : e.args = [] := by
      cases hl : e.args with
      | nil => rfl
      | cons a r =>
        have := vi (e := e) (a := a) (by rw [hl]; simp)
        cases a with | mk op name k w args => rw [eI] at this; omega
    have h := AU p s data 0 e c v ho ht hmw (fun a h => by rw [ha] at h; cases h)
    refine ap.recast ?_ h
    refine ⟨wL _ rfl,⟨rfl,rfl,rfl,rfl,rfl,rfl,?_,oK⟩,oK⟩
    show e.args.map (eA 0) = e.args.map (eA 1)
    rw [ha]; rfl
  | n + 1,e,v,ht,hd => AU p s data n e c v ho ht hmw (fun a h => by
    obtain ⟨w,hw⟩ := HB ht h
    exact jF ho hmw n a w hw (by have := vi h; omega))
abbrev nC (p : Pr) (s : Ps) (data : List Int) (e : Ex) : Ct := ⟨101,[(ES p s data),(.agg [(i6 e.op),(dS e.name),(i6 e.k.n),(dS e.k.p),(i6 e.w.n),(dS e.w.p),(dL 7 (eA 2) dE e.args)])],false,(dB (fa p s data e))⟩
theorem sH (p : Pr) (s : Ps) (data : List Int) (e : Ex) {c : Sc} {v : Int} (ho : s4 c p s data) (hmw : ∀ i,i < p.mems.length → ((s.mems.getD i []).length : Int) = (p.mems.getD i au).words) (ht : dA c e = some v) (hd : eI e ≤ 3) : CC (nC p s data e) := by
 refine ap.vc (V := TT 5 (CC (ll p s data 2 e)∧TT 4 ((((bx p s data e).1) == 1) = (fa p s data e)∧True))) (.w 1 [(2,(ll p s data 2 e).O)] <| .e) Try.func101 rfl rfl rfl (by kernel_rfl) ?_
 refine tt ⟨(jF ho hmw 2 e _ ht hd),tt ⟨?_,oK⟩⟩
 rfl
abbrev IM (p : Pr) (s : Ps) (hs : List Hd) (rs : List Bool) : Ct := ⟨100,[(EP p),(.agg (sG s)),(.agg [(dL 2 gW cG hs),(LB rs)])],true,(.agg [(dS p.name),(dS p.clock),(dL 13 bA aC p.regs),(dL 27 bX au p.mems),(dL 9 cP bB p.takes),(dL 16 cN bK p.puts),(LI s.regs),(dL 1 ab [] s.mems),(LI (bN p s hs))])⟩
abbrev fX (p : Pr) (s : Ps) (hs : List Hd) (rs : List Bool) : Lp (Nat × List Int) := pW [3,5,6,7,8,9] 20 (fun (i : Nat) (dat : List Int) => ⟨[(3,lk),(5,(.ptr 2 0 0 0)),(6,(.ptr 3 0 0 0)),(7,(.ptr 11 0 0 0)),(8,(.ptr 19 0 0 0)),(9,(i6 (i : Int)))],[(sF p),(.var 74 (sG s)),(.var 176 [(dL 2 gW cG hs),(LB rs)]),(.var 179 [(dS e0),(dS e0),.nils,.nils,.nils,.nils,.nils,.nils,.nils]),.dead,.dead,.dead,.dead,.dead,.dead,.dead,(.var 179 [(dS p.name),(dS p.clock),(dL 13 bA aC p.regs),(dL 27 bX au p.mems),(dL 9 cP bB p.takes),(dL 16 cN bK p.puts),(LI s.regs),(dL 1 ab [] s.mems),(LI (mN p))]),.dead,.dead,.dead,.dead,.dead,(.arr 3 1 (aa .i64) 0 dat),.dead,(.var 179 [(dS p.name),(dS p.clock),(dL 13 bA aC p.regs),(dL 27 bX au p.mems),(dL 9 cP bB p.takes),(dL 16 cN bK p.puts),(LI s.regs),(dL 1 ab [] s.mems),(.own 17)])]⟩) (fun (i : Nat) (dat : List Int) => i ≤ p.takes.length∧dat = jj (Bw p s hs) (mN p) i) (fun (i : Nat) (dat : List Int) => p.takes.length - i)
theorem yV (p : Pr) (s : Ps) (hs : List Hd) (rs : List Bool) (hp : im p) (hso : pA p s) (hh : BA p hs) : CC (IM p s hs rs) := by
 have ht1 := hp.tl
 have ht2 := hp.pl
 have hhl := hh.l
 have hmw := hso.mn
 have ho := io hp hso (JA hp)
 refine ap.vc (V := TT 9 ((((0 : Int) ≤ (p.takes.length : Int)∧(p.takes.length : Int) ≤ (p.takes.length : Int)∧(p.takes.length : Int) ≤ 137438953472)∧(mN p).length = p.takes.length∧∀ x ∈ (mN p),dy [(i6 0)] ((aa .i64) x))∧TT 8 ((((0 : Int) ≤ (p.takes.length : Int)∧(p.takes.length : Int) ≤ (p.takes.length : Int)∧(p.takes.length : Int) ≤ 137438953472)∧(mN p).length = p.takes.length∧∀ x ∈ (mN p),dy [(i6 0)] ((aa .i64) x))∧TT 4 (GO (fX p s hs rs) (0,mN p) (∀ i dat,(fX p s hs rs).inv (i,dat) → TT 5 (CD ((i : Int) < (p.takes.length : Int)) (CS ((fa p s (mN p) ((p.takes.getD i bB).when)) = true) (TT 4 (IX (i : Int) p.takes.length∧TT 2 (CC (nC p s (mN p) ((p.takes.getD i bB).when))∧(True∧(fa p s (mN p) ((p.takes.getD i bB).when)) = true)∧TT 3 (IX (i : Int) hs.length∧TT 3 (CB ((hs.getD i cG).has) (TT 6 (IX (i : Int) hs.length∧TT 2 (IX (i : Int) dat.length∧(i < dat.length∧(dat.map (aa .i64)).set i (((aa .i64) (dat.getD i 0)).take 0 ++ [(.int .i64 ((hs.getD i cG).v))] ++ ((aa .i64) (dat.getD i 0)).drop (0 + 1)) = (dat.set i ((hs.getD i cG).v)).map (aa .i64))∧TT 1 (W6 ((i + 1 : Nat) : Int)∧TT 1 (AG (fX p s hs rs) (i,dat) (i + 1,dat.set i ((hs.getD i cG).v))))))) (TT 1 (W6 ((i + 1 : Nat) : Int)∧TT 1 (AG (fX p s hs rs) (i,dat) (i + 1,dat))))))))) (TT 4 (IX (i : Int) p.takes.length∧TT 2 (CC (nC p s (mN p) ((p.takes.getD i bB).when))∧(True∧(fa p s (mN p) ((p.takes.getD i bB).when)) = false)∧TT 2 (W6 ((i + 1 : Nat) : Int)∧TT 1 (AG (fX p s hs rs) (i,dat) (i + 1,dat))))))) (TT 3 (p.name = p.name∧p.clock = p.clock∧p.regs.map bA = p.regs.map bA∧p.mems.map bX = p.mems.map bX∧p.takes.map cP = p.takes.map cP∧p.puts.map cN = p.puts.map cN∧s.regs.map (aa .i64) = s.regs.map (aa .i64)∧s.mems.map ab = s.mems.map ab∧dat.map (aa .i64) = (bN p s hs).map (aa .i64)∧True)))))))) (.w 1 [(5,.frz 3 1 (aa .i64) 0 (mN p))] <| .w 2 [(5,.box 3 1 (aa .i64) 0 (mN p))] <| .l (fX p s hs rs) (0,mN p) (fun ⟨i,dat⟩ => .b 28 (.s 6 ((fa p s (mN p) ((p.takes.getD i bB).when)) = true) (.w 6 [(7,(nC p s (mN p) ((p.takes.getD i bB).when)).O),(8,.val (dB true))] <| .b 46 (.w 7 [(10,.box 3 1 (aa .i64) 0 (dat.set i ((hs.getD i cG).v)))] <| .w 5 [(1,.val (i6 ((i + 1 : Nat) : Int)))] <| .e) (.w 5 [(1,.val (i6 ((i + 1 : Nat) : Int)))] <| .e)) (.w 6 [(7,(nC p s (mN p) ((p.takes.getD i bB).when)).O),(8,.val (dB false))] <| .w 5 [(1,.val (i6 ((i + 1 : Nat) : Int)))] <| .e)) (.e))) Try.func100 rfl rfl rfl (by kernel_rfl) ?_
 refine tt ⟨⟨by omega,kX,fun x hx => by rw [List.eq_of_mem_replicate hx]; exact ⟨rfl,oK⟩⟩,tt ⟨⟨by omega,kX,fun x hx => by rw [List.eq_of_mem_replicate hx]; exact ⟨rfl,oK⟩⟩,tt ⟨rfl,⟨by omega,rfl⟩,?_⟩⟩⟩
 intro i dat hinv
 obtain ⟨hi,hdat⟩ := hinv
 have hdl : dat.length = p.takes.length := by rw [hdat,eE (by rw [kX]; exact hi),kX]
 refine tt (cd (fun hc28 => ?_) (fun hc28 => ?_))
 · have hwh := vz hp (show i < p.takes.length by omega)
   refine ⟨fun hs0 => ?_,fun hs0 => ?_⟩
   · refine tt ⟨ix,tt ⟨(sH p s (mN p) ((p.takes.getD i bB).when) ho hmw hwh.1 hwh.2),⟨(bT hs0),tt ⟨ix,tt ⟨fun hc46 => ?_,fun hc46 => ?_⟩⟩⟩⟩⟩
     · refine tt ⟨ix,tt ⟨ix,⟨⟨om,by simp only [List.map_set]; rfl⟩,tt ⟨w6,tt ⟨(i + 1,dat.set i ((hs.getD i cG).v)),rfl,?_,(?_ : p.takes.length - (i + 1) < p.takes.length - i)⟩⟩⟩⟩⟩
       · exact ⟨by omega,by rw [hdat]; exact bU (by rw [kX]; omega) (FS hs0 hc46)⟩
       · omega
     · refine tt ⟨w6,tt ⟨(i + 1,dat),rfl,?_,(?_ : p.takes.length - (i + 1) < p.takes.length - i)⟩⟩
       · exact ⟨by omega,by rw [hdat]; exact fR (by rw [kX]; omega) (by first | exact Aa (by assumption) | exact Ab (by rw [hc46]; simp))⟩
       · omega
   · refine tt ⟨ix,tt ⟨(sH p s (mN p) ((p.takes.getD i bB).when) ho hmw hwh.1 hwh.2),⟨(bF hs0),tt ⟨w6,tt ⟨(i + 1,dat),rfl,?_,(?_ : p.takes.length - (i + 1) < p.takes.length - i)⟩⟩⟩⟩⟩
     · exact ⟨by omega,by rw [hdat]; exact fR (by rw [kX]; omega) (by first | exact Aa (by assumption) | exact Ab (by rw [hc46]; simp))⟩
     · omega
 · refine tt ⟨rfl,rfl,rfl,rfl,rfl,rfl,rfl,rfl,(congrArg _ (?_ : dat = (bN p s hs))),oK⟩
   rw [hdat,show i = p.takes.length by omega,dg (by rw [kX]; exact Nat.le_refl _)]; rfl
abbrev IP (p : Pr) (s : Ps) (data : List Int) : Ct := ⟨102,[(ES p s data)],true,(.agg [(LI ((dP p s data).regs)),(dL 1 ab [] ((dP p s data).mems))])⟩
abbrev oO (p : Pr) (s : Ps) (data : List Int) : Lp (Nat) := fB [1,2,3,4] 4 (fun (i : Nat) => ⟨[(1,lk),(2,(.ptr 1 0 0 0)),(3,(.ptr 2 0 0 0)),(4,(i6 (i : Int)))],[(ER p s data),(.var 74 [.nils,.nils]),(.var 74 [(.own 3),.nils]),(.arr 3 1 (aa .i64) 0 (tab (fun z => (bx p s data (p.regs.getD z aC).next).1) i))]⟩) (fun (i : Nat) => i ≤ p.regs.length) (fun (i : Nat) => p.regs.length - i)
abbrev lm (p : Pr) (s : Ps) (data : List Int) (i : Nat) : Lp (Nat) := fB [1,2,3,5] 5 (fun (j : Nat) => ⟨[(1,lk),(2,(.ptr 1 0 0 0)),(3,(.ptr 2 0 0 0)),(5,(i6 (j : Int)))],[(ER p s data),(.var 74 [.nils,.nils]),(.var 74 [(.own 3),(.own 4)]),(.arr 3 1 (aa .i64) 0 (tab (fun z => (bx p s data (p.regs.getD z aC).next).1) i)),(.arr 54 1 ab [] (tab (xM p s data) j))]⟩) (fun (j : Nat) => j ≤ p.mems.length) (fun (j : Nat) => p.mems.length - j)
theorem ET (p : Pr) (s : Ps) (data : List Int) (hp : im p) (hso : pA p s) (hda : Bz p data) : CC (IP p s data) := by
 have hl1 := hp.rl
 have hl2 := hp.ml
 have hmw := hso.mn
 have ho := io hp hso hda
 have hsl := hso.ml
 refine ap.vc (V := TT 6 (GO (oO p s data) 0 (∀ i,(oO p s data).inv i → TT 6 (CD ((i : Int) < (p.regs.length : Int)) (TT 7 (IX (i : Int) p.regs.length∧TT 2 (CC (ll p s data 2 ((p.regs.getD i aC).next))∧TT 1 (ai [[(i6 ((bx p s data ((p.regs.getD i aC).next)).1))]] ([(bx p s data ((p.regs.getD i aC).next)).1].map (aa .i64))∧((tab (fun z => (bx p s data (p.regs.getD z aC).next).1) i).length + ([(bx p s data ((p.regs.getD i aC).next)).1].map (aa .i64)).length ≤ 137438953472∧(tab (fun z => (bx p s data (p.regs.getD z aC).next).1) i).map (aa .i64) ++ [(bx p s data ((p.regs.getD i aC).next)).1].map (aa .i64) = (tab (fun z => (bx p s data (p.regs.getD z aC).next).1) (i + 1)).map (aa .i64))∧TT 3 (W6 ((i + 1 : Nat) : Int)∧TT 1 (AG (oO p s data) i (i + 1))))))) (TT 1 (GO (lm p s data i) 0 (∀ j,(lm p s data i).inv j → TT 6 (CD ((j : Int) < (p.mems.length : Int)) (TT 4 (IX (j : Int) p.mems.length∧TT 3 (ai [] (([] : List Int).map (aa .i64))∧TT 4 (IX (j : Int) s.mems.length∧TT 1 ((([] : List Int).length + ((s.mems.getD j []).map (aa .i64)).length ≤ 137438953472∧([] : List Int).map (aa .i64) ++ (s.mems.getD j []).map (aa .i64) = (s.mems.getD j []).map (aa .i64))∧TT 4 (CC (nC p s data ((p.mems.getD j au).enable))∧CB (fa p s data ((p.mems.getD j au).enable)) (TT 4 (CC (ll p s data 2 ((p.mems.getD j au).addr))∧TT 3 (((p.mems.getD j au).words) ≠ 0∧TT 3 (CC (ll p s data 2 ((p.mems.getD j au).data))∧TT 1 (IX (Int.tmod ((bx p s data ((p.mems.getD j au).addr)).1) ((p.mems.getD j au).words)) ((s.mems.getD j []).length)∧((Int.tmod ((bx p s data ((p.mems.getD j au).addr)).1) ((p.mems.getD j au).words)).toNat < (s.mems.getD j []).length∧((s.mems.getD j []).map (aa .i64)).set ((Int.tmod ((bx p s data ((p.mems.getD j au).addr)).1) ((p.mems.getD j au).words)).toNat) (((aa .i64) ((s.mems.getD j []).getD ((Int.tmod ((bx p s data ((p.mems.getD j au).addr)).1) ((p.mems.getD j au).words)).toNat) 0)).take 0 ++ [(.int .i64 ((bx p s data ((p.mems.getD j au).data)).1))] ++ ((aa .i64) ((s.mems.getD j []).getD ((Int.tmod ((bx p s data ((p.mems.getD j au).addr)).1) ((p.mems.getD j au).words)).toNat) 0)).drop (0 + 1)) = ((s.mems.getD j []).set ((Int.tmod ((bx p s data ((p.mems.getD j au).addr)).1) ((p.mems.getD j au).words)).toNat) ((bx p s data ((p.mems.getD j au).data)).1)).map (aa .i64))∧TT 3 (ai [[(LI ((s.mems.getD j []).set ((Int.tmod ((bx p s data ((p.mems.getD j au).addr)).1) ((p.mems.getD j au).words)).toNat) ((bx p s data ((p.mems.getD j au).data)).1)))]] ([(s.mems.getD j []).set ((Int.tmod ((bx p s data ((p.mems.getD j au).addr)).1) ((p.mems.getD j au).words)).toNat) ((bx p s data ((p.mems.getD j au).data)).1)].map ab)∧((tab (xM p s data) j).length + ([(s.mems.getD j []).set ((Int.tmod ((bx p s data ((p.mems.getD j au).addr)).1) ((p.mems.getD j au).words)).toNat) ((bx p s data ((p.mems.getD j au).data)).1)].map ab).length ≤ 137438953472∧(tab (xM p s data) j).map ab ++ [(s.mems.getD j []).set ((Int.tmod ((bx p s data ((p.mems.getD j au).addr)).1) ((p.mems.getD j au).words)).toNat) ((bx p s data ((p.mems.getD j au).data)).1)].map ab = (tab (xM p s data) (j + 1)).map ab)∧TT 3 (W6 ((j + 1 : Nat) : Int)∧TT 1 (AG (lm p s data i) j (j + 1))))))))) (TT 3 (ai [[(LI (s.mems.getD j []))]] ([s.mems.getD j []].map ab)∧((tab (xM p s data) j).length + ([s.mems.getD j []].map ab).length ≤ 137438953472∧(tab (xM p s data) j).map ab ++ [s.mems.getD j []].map ab = (tab (xM p s data) (j + 1)).map ab)∧TT 3 (W6 ((j + 1 : Nat) : Int)∧TT 1 (AG (lm p s data i) j (j + 1))))))))))) (TT 3 ((tab (fun z => (bx p s data (p.regs.getD z aC).next).1) i).map (aa .i64) = ((dP p s data).regs).map (aa .i64)∧(tab (xM p s data) j).map ab = ((dP p s data).mems).map ab∧True)))))))))) (.g 2 2 0 3 1 (aa .i64) 0 <| .l (oO p s data) 0 (fun i => .b 14 (.w 5 [(10,(ll p s data 2 ((p.regs.getD i aC).next)).O),(12,.box 3 1 (aa .i64) 0 [(bx p s data ((p.regs.getD i aC).next)).1]),(13,.box 3 1 (aa .i64) 0 (tab (fun z => (bx p s data (p.regs.getD z aC).next).1) (i + 1)))] <| .w 4 [(1,.val (i6 ((i + 1 : Nat) : Int)))] <| .e) (.g 6 2 1 54 1 ab [] <| .l (lm p s data i) 0 (fun j => .b 37 (.w 10 [(0,.box 3 1 (aa .i64) 0 ([] : List Int)),(7,.box 3 1 (aa .i64) 0 (s.mems.getD j []))] <| .w 11 [(3,(nC p s data ((p.mems.getD j au).enable)).O)] <| .b 57 (.w 12 [(4,(ll p s data 2 ((p.mems.getD j au).addr)).O),(12,(ll p s data 2 ((p.mems.getD j au).data)).O),(15,.box 3 1 (aa .i64) 0 ((s.mems.getD j []).set ((Int.tmod ((bx p s data ((p.mems.getD j au).addr)).1) ((p.mems.getD j au).words)).toNat) ((bx p s data ((p.mems.getD j au).data)).1)))] <| .f 13 6 <| .w 13 [(3,.box 54 1 ab [] [(s.mems.getD j []).set ((Int.tmod ((bx p s data ((p.mems.getD j au).addr)).1) ((p.mems.getD j au).words)).toNat) ((bx p s data ((p.mems.getD j au).data)).1)]),(4,.box 54 1 ab [] (tab (xM p s data) (j + 1)))] <| .w 8 [(1,.val (i6 ((j + 1 : Nat) : Int)))] <| .e) (.f 13 6 <| .w 13 [(3,.box 54 1 ab [] [s.mems.getD j []]),(4,.box 54 1 ab [] (tab (xM p s data) (j + 1)))] <| .w 8 [(1,.val (i6 ((j + 1 : Nat) : Int)))] <| .e)) (.e))))) Try.func102 rfl rfl rfl (by kernel_rfl) ?_
 refine tt ⟨rfl,(by omega),?_⟩
 intro i hinv
 have hi := hinv
 refine tt (cd (fun hc14 => ?_) (fun hc14 => ?_))
 · have hrn := hp.rw i (by omega)
   refine tt ⟨ix,tt ⟨(jF ho hmw 2 ((p.regs.getD i aC).next) _ hrn.2.2.1 hrn.2.2.2),tt ⟨⟨⟨rfl,oK⟩,oK⟩,⟨(oz (f := fun z => (bx p s data (p.regs.getD z aC).next).1) (by omega)),tt ⟨w6,tt ⟨(i + 1),rfl,(?_ : (i + 1) ≤ p.regs.length),(?_ : p.regs.length - (i + 1) < p.regs.length - i)⟩⟩⟩⟩⟩⟩
   · omega
   · omega
 · refine tt ⟨rfl,(by omega),?_⟩
   intro j hinv
   have hj := hinv
   refine tt (cd (fun hc37 => ?_) (fun hc37 => ?_))
   · have hmz : 1 ≤ (p.mems.getD j au).words∧(p.mems.getD j au).words ≤ 4 := (hp.mw j (by omega)).2.1
     have hml : ((s.mems.getD j []).length : Int) = (p.mems.getD j au).words := hso.mn j (by omega)
     have hme := (hp.mw j (by omega)).2.2.1
     have hmb := (hp.mw j (by omega)).2.2.2
     obtain ⟨va,hma⟩ := hmb.1.1
     have had : 0 ≤ Int.tmod (bx p s data (p.mems.getD j au).addr).1 (p.mems.getD j au).words∧Int.tmod (bx p s data (p.mems.getD j au).addr).1 (p.mems.getD j au).words < (s.mems.getD j []).length∧(p.mems.getD j au).words ≠ 0 := FT hp hso hda (show j < p.mems.length by omega)
     refine tt ⟨ix,tt ⟨oK,tt ⟨ix,tt ⟨⟨by simp only [List.length_map,List.length_nil]; omega,by simp⟩,tt ⟨(sH p s data ((p.mems.getD j au).enable) ho hmw hme.1 hme.2),⟨fun hc57 => ?_,fun hc57 => ?_⟩⟩⟩⟩⟩⟩
     · refine tt ⟨(jF ho hmw 2 ((p.mems.getD j au).addr) _ hma hmb.1.2),tt ⟨om,tt ⟨(jF ho hmw 2 ((p.mems.getD j au).data) _ hmb.2.1 hmb.2.2),tt ⟨ix,⟨⟨om,by simp only [List.map_set]; rfl⟩,tt ⟨⟨⟨rfl,oK⟩,oK⟩,⟨(aJ (by omega) (by first | exact DG hc57 | exact G2 (by rw [hc57]; simp))),tt ⟨w6,tt ⟨(j + 1),rfl,(?_ : (j + 1) ≤ p.mems.length),(?_ : p.mems.length - (j + 1) < p.mems.length - j)⟩⟩⟩⟩⟩⟩⟩⟩⟩
       · omega
       · omega
     · refine tt ⟨⟨⟨rfl,oK⟩,oK⟩,⟨(aJ (by omega) (by first | exact DG hc57 | exact G2 (by rw [hc57]; simp))),tt ⟨w6,tt ⟨(j + 1),rfl,(?_ : (j + 1) ≤ p.mems.length),(?_ : p.mems.length - (j + 1) < p.mems.length - j)⟩⟩⟩⟩
       · omega
       · omega
   · refine tt ⟨(congrArg _ (?_ : (tab (fun z => (bx p s data (p.regs.getD z aC).next).1) i) = ((dP p s data).regs))),(congrArg _ (?_ : (tab (xM p s data) j) = ((dP p s data).mems))),oK⟩
     · rw [show i = p.regs.length by omega]; rfl
     · rw [show j = p.mems.length by omega]; rfl
abbrev Lx (p : Pr) (s : Ps) (hs : List Hd) (rs : List Bool) : Ct := ⟨98,[(EP p),(.agg (sG s)),(.agg [(dL 2 gW cG hs),(LB rs)])],true,(.agg [(dB ((bi p s hs rs).fires)),(LI (((bi p s hs rs).s).regs)),(dL 1 ab [] (((bi p s hs rs).s).mems)),(LB ((bi p s hs rs).pops)),(dL 2 gW cG ((bi p s hs rs).puts))])⟩
abbrev hD (p : Pr) (s : Ps) (hs : List Hd) (rs : List Bool) : Lp (Nat × Bool) := pW [3,5,6,7,8,9] 16 (fun (i : Nat) (fir : Bool) => ⟨[(3,lk),(5,(.ptr 2 0 0 0)),(6,(.ptr 3 0 0 0)),(7,(.ptr 4 0 0 0)),(8,(.ptr 15 0 0 0)),(9,(i6 (i : Int)))],[(sF p),(.var 74 (sG s)),(.var 176 [(dL 2 gW cG hs),(LB rs)]),AR,(AQ p s hs),.dead,.dead,.dead,.dead,(.arr 4 1 bM false (List.replicate p.takes.length false)),.dead,.dead,.dead,(.arr 170 2 gW cG (List.replicate p.puts.length cG)),.dead,(.var 167 [(dB fir),(LI s.regs),(dL 1 ab [] s.mems),(.own 9),(.own 13)])]⟩) (fun (i : Nat) (fir : Bool) => i ≤ p.takes.length∧fir = cJ (rV p s hs) i) (fun (i : Nat) (fir : Bool) => p.takes.length - i)
abbrev hE (p : Pr) (s : Ps) (hs : List Hd) (rs : List Bool) (fir : Bool) : Lp (Nat × Bool) := pW [3,5,6,7,8,10] 16 (fun (m : Nat) (fi2 : Bool) => ⟨[(3,lk),(5,(.ptr 2 0 0 0)),(6,(.ptr 3 0 0 0)),(7,(.ptr 4 0 0 0)),(8,(.ptr 15 0 0 0)),(10,(i6 (m : Int)))],[(sF p),(.var 74 (sG s)),(.var 176 [(dL 2 gW cG hs),(LB rs)]),AR,(AQ p s hs),.dead,.dead,.dead,.dead,(.arr 4 1 bM false (List.replicate p.takes.length false)),.dead,.dead,.dead,(.arr 170 2 gW cG (List.replicate p.puts.length cG)),.dead,(.var 167 [(dB fi2),(LI s.regs),(dL 1 ab [] s.mems),(.own 9),(.own 13)])]⟩) (fun (m : Nat) (fi2 : Bool) => m ≤ p.puts.length∧fi2 = (fir && cJ (rX p s hs rs) m)) (fun (m : Nat) (fi2 : Bool) => p.puts.length - m)
abbrev ma (p : Pr) (s : Ps) (hs : List Hd) (rs : List Bool) (fi2 : Bool) : Lp (Nat × List Bool) := pW [3,6,7,8,11] 16 (fun (q : Nat) (pop : List Bool) => ⟨[(3,lk),(6,(.ptr 3 0 0 0)),(7,(.ptr 4 0 0 0)),(8,(.ptr 15 0 0 0)),(11,(i6 (q : Int)))],[(sF p),(.var 74 (sG s)),(.var 176 [(dL 2 gW cG hs),(LB rs)]),AR,(AQ p s hs),.dead,.dead,.dead,.dead,(.arr 4 1 bM false pop),.dead,.dead,.dead,(.arr 170 2 gW cG (List.replicate p.puts.length cG)),.dead,(.var 167 [(dB fi2),(LI ((dP p s (bN p s hs)).regs)),(dL 1 ab [] ((dP p s (bN p s hs)).mems)),(.own 9),(.own 13)])]⟩) (fun (q : Nat) (pop : List Bool) => q ≤ p.takes.length∧pop = jj (Dq p s hs) (List.replicate p.takes.length false) q) (fun (q : Nat) (pop : List Bool) => p.takes.length - q)
abbrev jG (p : Pr) (s : Ps) (hs : List Hd) (rs : List Bool) (fi2 : Bool) (pop : List Bool) : Lp (Nat × List Hd) := pW [3,6,7,8,12] 16 (fun (t : Nat) (put : List Hd) => ⟨[(3,lk),(6,(.ptr 3 0 0 0)),(7,(.ptr 4 0 0 0)),(8,(.ptr 15 0 0 0)),(12,(i6 (t : Int)))],[(sF p),(.var 74 (sG s)),(.var 176 [(dL 2 gW cG hs),(LB rs)]),AR,(AQ p s hs),.dead,.dead,.dead,.dead,(.arr 4 1 bM false pop),.dead,.dead,.dead,(.arr 170 2 gW cG put),.dead,(.var 167 [(dB fi2),(LI ((dP p s (bN p s hs)).regs)),(dL 1 ab [] ((dP p s (bN p s hs)).mems)),(.own 9),(.own 13)])]⟩) (fun (t : Nat) (put : List Hd) => t ≤ p.puts.length∧put = jj (Bx p s hs) (List.replicate p.puts.length cG) t) (fun (t : Nat) (put : List Hd) => p.puts.length - t)
theorem B1 (p : Pr) (s : Ps) (hs : List Hd) (rs : List Bool) (hp : im p) (hso : pA p s) (hh : BA p hs) (hrs : rs.length = p.puts.length) : CC (Lx p s hs rs) := by
 have ht1 := hp.tl
 have ht2 := hp.pl
 have hhl := hh.l
 have hmw := hso.mn
 have ho := io hp hso (vj (s := s) (hs := hs) hp hh)
 have hda := vj (s := s) (hs := hs) hp hh
 refine ap.vc (V := TT 7 (CC (IM p s hs rs)∧TT 6 ((((0 : Int) ≤ (p.takes.length : Int)∧(p.takes.length : Int) ≤ (p.takes.length : Int)∧(p.takes.length : Int) ≤ 137438953472)∧(List.replicate p.takes.length false).length = p.takes.length∧∀ x ∈ (List.replicate p.takes.length false),dy [(dB false)] (bM x))∧TT 3 ((((0 : Int) ≤ (p.puts.length : Int)∧(p.puts.length : Int) ≤ (p.puts.length : Int)∧(p.puts.length : Int) ≤ 137438953472)∧(List.replicate p.puts.length cG).length = p.puts.length∧∀ x ∈ (List.replicate p.puts.length cG),dy [(dB false),(i6 0)] (gW x))∧TT 4 (GO (hD p s hs rs) (0,true) (∀ i fir,(hD p s hs rs).inv (i,fir) → TT 5 (CD ((i : Int) < (p.takes.length : Int)) (CS (fir = true) (CS (((hs.getD i cG).has) = true) (TT 2 ((True∧fir = true)∧TT 3 (IX (i : Int) hs.length∧TT 2 ((True∧((hs.getD i cG).has) = true)∧TT 5 (W6 ((i + 1 : Nat) : Int)∧TT 1 (AG (hD p s hs rs) (i,fir) (i + 1,true))))))) (TT 2 ((True∧fir = true)∧TT 3 (IX (i : Int) hs.length∧TT 2 ((True∧((hs.getD i cG).has) = false)∧TT 4 (IX (i : Int) p.takes.length∧TT 2 (CC (nC p s (bN p s hs) ((p.takes.getD i bB).when))∧TT 6 (W6 ((i + 1 : Nat) : Int)∧TT 1 (AG (hD p s hs rs) (i,fir) (i + 1,!(fa p s (bN p s hs) ((p.takes.getD i bB).when)))))))))))) (TT 2 ((True∧fir = false)∧TT 4 (W6 ((i + 1 : Nat) : Int)∧TT 1 (AG (hD p s hs rs) (i,fir) (i + 1,false)))))) (TT 1 (GO (hE p s hs rs fir) (0,fir) (∀ m fi2,(hE p s hs rs fir).inv (m,fi2) → TT 5 (CD ((m : Int) < (p.puts.length : Int)) (CS (fi2 = true) (CS ((rs.getD m false) = true) (TT 2 ((True∧fi2 = true)∧TT 3 (IX (m : Int) rs.length∧TT 1 ((True∧(rs.getD m false) = true)∧TT 5 (W6 ((m + 1 : Nat) : Int)∧TT 1 (AG (hE p s hs rs fir) (m,fi2) (m + 1,true))))))) (TT 2 ((True∧fi2 = true)∧TT 3 (IX (m : Int) rs.length∧TT 1 ((True∧(rs.getD m false) = false)∧TT 4 (IX (m : Int) p.puts.length∧TT 2 (CC (nC p s (bN p s hs) ((p.puts.getD m bK).when))∧TT 6 (W6 ((m + 1 : Nat) : Int)∧TT 1 (AG (hE p s hs rs fir) (m,fi2) (m + 1,!(fa p s (bN p s hs) ((p.puts.getD m bK).when)))))))))))) (TT 2 ((True∧fi2 = false)∧TT 4 (W6 ((m + 1 : Nat) : Int)∧TT 1 (AG (hE p s hs rs fir) (m,fi2) (m + 1,false)))))) (TT 3 (CB (!fi2) (TT 3 (fi2 = ((bi p s hs rs).fires)∧s.regs.map (aa .i64) = (((bi p s hs rs).s).regs).map (aa .i64)∧s.mems.map ab = (((bi p s hs rs).s).mems).map ab∧(List.replicate p.takes.length false).map bM = ((bi p s hs rs).pops).map bM∧(List.replicate p.puts.length cG).map gW = ((bi p s hs rs).puts).map gW∧True)) (TT 1 (CC (IP p s (bN p s hs))∧TT 3 (GO (ma p s hs rs fi2) (0,List.replicate p.takes.length false) (∀ q pop,(ma p s hs rs fi2).inv (q,pop) → TT 5 (CD ((q : Int) < (p.takes.length : Int)) (TT 7 (IX (q : Int) p.takes.length∧TT 2 (CC (nC p s (bN p s hs) ((p.takes.getD q bB).when))∧IX (q : Int) pop.length∧(q < pop.length∧(pop.map bM).set q ((bM (pop.getD q false)).take 0 ++ [(.bool (fa p s (bN p s hs) ((p.takes.getD q bB).when)))] ++ (bM (pop.getD q false)).drop (0 + 1)) = (pop.set q (fa p s (bN p s hs) ((p.takes.getD q bB).when))).map bM)∧TT 1 (W6 ((q + 1 : Nat) : Int)∧TT 1 (AG (ma p s hs rs fi2) (q,pop) (q + 1,pop.set q (fa p s (bN p s hs) ((p.takes.getD q bB).when)))))))) (TT 1 (GO (jG p s hs rs fi2 pop) (0,List.replicate p.puts.length cG) (∀ t put,(jG p s hs rs fi2 pop).inv (t,put) → TT 5 (CD ((t : Int) < (p.puts.length : Int)) (TT 4 (IX (t : Int) p.puts.length∧TT 2 (CC (nC p s (bN p s hs) ((p.puts.getD t bK).when))∧CB (fa p s (bN p s hs) ((p.puts.getD t bK).when)) (TT 7 (IX (t : Int) p.puts.length∧TT 2 (CC (ll p s (bN p s hs) 2 ((p.puts.getD t bK).data))∧TT 2 (IX (t : Int) put.length∧(t < put.length∧(put.map gW).set t ((gW (put.getD t cG)).take 0 ++ [(.bool true),(.int .i64 ((bx p s (bN p s hs) ((p.puts.getD t bK).data)).1))] ++ (gW (put.getD t cG)).drop (0 + 2)) = (put.set t (⟨true,(bx p s (bN p s hs) ((p.puts.getD t bK).data)).1⟩ : Hd)).map gW)∧TT 1 (W6 ((t + 1 : Nat) : Int)∧TT 1 (AG (jG p s hs rs fi2 pop) (t,put) (t + 1,put.set t (⟨true,(bx p s (bN p s hs) ((p.puts.getD t bK).data)).1⟩ : Hd)))))))) (TT 1 (W6 ((t + 1 : Nat) : Int)∧TT 1 (AG (jG p s hs rs fi2 pop) (t,put) (t + 1,put))))))) (TT 3 (fi2 = ((bi p s hs rs).fires)∧((dP p s (bN p s hs)).regs).map (aa .i64) = (((bi p s hs rs).s).regs).map (aa .i64)∧((dP p s (bN p s hs)).mems).map ab = (((bi p s hs rs).s).mems).map ab∧pop.map bM = ((bi p s hs rs).pops).map bM∧put.map gW = ((bi p s hs rs).puts).map gW∧True)))))))))))))))))))))))) (.w 1 [(3,(IM p s hs rs).O)] <| .w 2 [(4,.box 4 1 bM false (List.replicate p.takes.length false)),(8,.box 170 2 gW cG (List.replicate p.puts.length cG))] <| .l (hD p s hs rs) (0,true) (fun ⟨i,fir⟩ => .b 31 (.s 6 (fir = true) (.s 6 (((hs.getD i cG).has) = true) (.w 6 [(2,.val (dB true)),(9,.val (dB true))] <| .w 5 [(1,.val (i6 ((i + 1 : Nat) : Int)))] <| .e) (.w 6 [(2,.val (dB true)),(9,.val (dB false)),(17,(nC p s (bN p s hs) ((p.takes.getD i bB).when)).O)] <| .w 5 [(1,.val (i6 ((i + 1 : Nat) : Int)))] <| .e)) (.w 6 [(2,.val (dB false))] <| .w 5 [(1,.val (i6 ((i + 1 : Nat) : Int)))] <| .e)) (.l (hE p s hs rs fir) (0,fir) (fun ⟨m,fi2⟩ => .b 60 (.s 10 (fi2 = true) (.s 10 ((rs.getD m false) = true) (.w 10 [(2,.val (dB true)),(8,.val (dB true))] <| .w 9 [(1,.val (i6 ((m + 1 : Nat) : Int)))] <| .e) (.w 10 [(2,.val (dB true)),(8,.val (dB false)),(16,(nC p s (bN p s hs) ((p.puts.getD m bK).when)).O)] <| .w 9 [(1,.val (i6 ((m + 1 : Nat) : Int)))] <| .e)) (.w 10 [(2,.val (dB false))] <| .w 9 [(1,.val (i6 ((m + 1 : Nat) : Int)))] <| .e)) (.b 86 (.e) (.w 13 [(1,(IP p s (bN p s hs)).O)] <| .l (ma p s hs rs fi2) (0,List.replicate p.takes.length false) (fun ⟨q,pop⟩ => .b 95 (.w 17 [(10,(nC p s (bN p s hs) ((p.takes.getD q bB).when)).O),(12,.box 4 1 bM false (pop.set q (fa p s (bN p s hs) ((p.takes.getD q bB).when))))] <| .w 16 [(1,.val (i6 ((q + 1 : Nat) : Int)))] <| .e) (.l (jG p s hs rs fi2 pop) (0,List.replicate p.puts.length cG) (fun ⟨t,put⟩ => .b 114 (.w 21 [(7,(nC p s (bN p s hs) ((p.puts.getD t bK).when)).O)] <| .b 124 (.w 22 [(10,(ll p s (bN p s hs) 2 ((p.puts.getD t bK).data)).O),(14,.box 170 2 gW cG (put.set t (⟨true,(bx p s (bN p s hs) ((p.puts.getD t bK).data)).1⟩ : Hd)))] <| .w 20 [(1,.val (i6 ((t + 1 : Nat) : Int)))] <| .e) (.w 20 [(1,.val (i6 ((t + 1 : Nat) : Int)))] <| .e)) (.e)))))))))) Try.func98 rfl rfl rfl (by kernel_rfl) ?_
 refine tt ⟨(yV p s hs rs hp hso hh),tt ⟨⟨by omega,List.length_replicate,fun x hx => by rw [List.eq_of_mem_replicate hx]; exact ⟨rfl,oK⟩⟩,tt ⟨⟨by omega,List.length_replicate,fun x hx => by rw [List.eq_of_mem_replicate hx]; exact ⟨rfl,rfl,oK⟩⟩,tt ⟨rfl,⟨by omega,rfl⟩,?_⟩⟩⟩⟩
 intro i fir hinv
 obtain ⟨hi,hfir⟩ := hinv
 refine tt (cd (fun hc31 => ?_) (fun hc31 => ?_))
 · have hwh := vz hp (show i < p.takes.length by omega)
   refine ⟨fun hs0 => ?_,fun hs0 => ?_⟩
   · refine ⟨fun hs1 => ?_,fun hs1 => ?_⟩
     · refine tt ⟨(bT hs0),tt ⟨ix,tt ⟨(bT hs1),tt ⟨w6,tt ⟨(i + 1,true),rfl,?_,(?_ : p.takes.length - (i + 1) < p.takes.length - i)⟩⟩⟩⟩⟩
       · exact ⟨by omega,yA hfir _ (by unfold rV; clear hfir; cases fir <;> simp_all)⟩
       · omega
     · refine tt ⟨(bT hs0),tt ⟨ix,tt ⟨(bF hs1),tt ⟨ix,tt ⟨(sH p s (bN p s hs) ((p.takes.getD i bB).when) ho hmw hwh.1 hwh.2),tt ⟨w6,tt ⟨(i + 1,!(fa p s (bN p s hs) ((p.takes.getD i bB).when))),rfl,?_,(?_ : p.takes.length - (i + 1) < p.takes.length - i)⟩⟩⟩⟩⟩⟩⟩
       · exact ⟨by omega,yA hfir _ (by unfold rV; clear hfir; cases fir <;> simp_all)⟩
       · omega
   · refine tt ⟨(bF hs0),tt ⟨w6,tt ⟨(i + 1,false),rfl,?_,(?_ : p.takes.length - (i + 1) < p.takes.length - i)⟩⟩⟩
     · exact ⟨by omega,yA hfir _ (by unfold rV; clear hfir; cases fir <;> simp_all)⟩
     · omega
 · refine tt ⟨rfl,⟨by omega,by simp [cJ]⟩,?_⟩
   intro m fi2 hinv
   obtain ⟨hm,hfi2⟩ := hinv
   refine tt (cd (fun hc60 => ?_) (fun hc60 => ?_))
   · have hpw := hp.pw m (by omega)
     refine ⟨fun hs2 => ?_,fun hs2 => ?_⟩
     · refine ⟨fun hs3 => ?_,fun hs3 => ?_⟩
       · refine tt ⟨(bT hs2),tt ⟨ix,tt ⟨(bT hs3),tt ⟨w6,tt ⟨(m + 1,true),rfl,?_,(?_ : p.puts.length - (m + 1) < p.puts.length - m)⟩⟩⟩⟩⟩
         · exact ⟨by omega,yB hfi2 _ (by unfold rX; clear hfi2 hfir; cases fi2 <;> simp_all)⟩
         · omega
       · refine tt ⟨(bT hs2),tt ⟨ix,tt ⟨(bF hs3),tt ⟨ix,tt ⟨(sH p s (bN p s hs) ((p.puts.getD m bK).when) ho hmw hpw.2.1.1 hpw.2.1.2),tt ⟨w6,tt ⟨(m + 1,!(fa p s (bN p s hs) ((p.puts.getD m bK).when))),rfl,?_,(?_ : p.puts.length - (m + 1) < p.puts.length - m)⟩⟩⟩⟩⟩⟩⟩
         · exact ⟨by omega,yB hfi2 _ (by unfold rX; clear hfi2 hfir; cases fi2 <;> simp_all)⟩
         · omega
     · refine tt ⟨(bF hs2),tt ⟨w6,tt ⟨(m + 1,false),rfl,?_,(?_ : p.puts.length - (m + 1) < p.puts.length - m)⟩⟩⟩
       · exact ⟨by omega,yB hfi2 _ (by unfold rX; clear hfi2 hfir; cases fi2 <;> simp_all)⟩
       · omega
   · have hie : i = p.takes.length := by omega
     have hme : m = p.puts.length := by omega
     refine tt ⟨fun hc86 => ?_,fun hc86 => ?_⟩
     · refine tt ⟨?_,(congrArg _ (?_ : s.regs = (((bi p s hs rs).s).regs))),(congrArg _ (?_ : s.mems = (((bi p s hs rs).s).mems))),(congrArg _ (?_ : (List.replicate p.takes.length false) = ((bi p s hs rs).pops))),(congrArg _ (?_ : (List.replicate p.puts.length cG) = ((bi p s hs rs).puts))),oK⟩
       all_goals
         rw [FO (by rw [t6 (rs := rs) (a := fir) (b := fi2) (by rw [hfir,hie]) (by rw [hfi2,hme])]; simpa using hc86)]
         first | done | rfl | simpa using hc86
     · refine tt ⟨(ET p s (bN p s hs) hp hso hda),tt ⟨rfl,⟨by omega,rfl⟩,?_⟩⟩
       intro q pop hinv
       obtain ⟨hq,hpop⟩ := hinv
       have hpl : pop.length = p.takes.length := by rw [hpop,eE (by rw [List.length_replicate]; exact hq),List.length_replicate]
       refine tt (cd (fun hc95 => ?_) (fun hc95 => ?_))
       · have hwh := vz hp (show q < p.takes.length by omega)
         refine tt ⟨ix,tt ⟨(sH p s (bN p s hs) ((p.takes.getD q bB).when) ho hmw hwh.1 hwh.2),⟨ix,⟨⟨om,by simp only [List.map_set]; rfl⟩,tt ⟨w6,tt ⟨(q + 1,pop.set q (fa p s (bN p s hs) ((p.takes.getD q bB).when))),rfl,?_,(?_ : p.takes.length - (q + 1) < p.takes.length - q)⟩⟩⟩⟩⟩⟩
         · exact ⟨by omega,by rw [hpop]; exact bU (by rw [List.length_replicate]; omega) rfl⟩
         · omega
       · refine tt ⟨rfl,⟨by omega,rfl⟩,?_⟩
         intro t put hinv
         obtain ⟨ht,hput⟩ := hinv
         have hql : put.length = p.puts.length := by rw [hput,eE (by rw [List.length_replicate]; exact ht),List.length_replicate]
         refine tt (cd (fun hc114 => ?_) (fun hc114 => ?_))
         · have hpw := hp.pw t (by omega)
           refine tt ⟨ix,tt ⟨(sH p s (bN p s hs) ((p.puts.getD t bK).when) ho hmw hpw.2.1.1 hpw.2.1.2),⟨fun hc124 => ?_,fun hc124 => ?_⟩⟩⟩
           · refine tt ⟨ix,tt ⟨(jF ho hmw 2 ((p.puts.getD t bK).data) _ hpw.2.2.1 hpw.2.2.2),tt ⟨ix,⟨⟨om,by simp only [List.map_set]; rfl⟩,tt ⟨w6,tt ⟨(t + 1,put.set t (⟨true,(bx p s (bN p s hs) ((p.puts.getD t bK).data)).1⟩ : Hd)),rfl,?_,(?_ : p.puts.length - (t + 1) < p.puts.length - t)⟩⟩⟩⟩⟩⟩
             · exact ⟨by omega,by rw [hput]; exact bU (by rw [List.length_replicate]; omega) (if_pos hc124)⟩
             · omega
           · refine tt ⟨w6,tt ⟨(t + 1,put),rfl,?_,(?_ : p.puts.length - (t + 1) < p.puts.length - t)⟩⟩
             · exact ⟨by omega,by rw [hput]; exact fR (d := cG) (by rw [List.length_replicate]; omega) ((if_neg (by rw [hc124]; simp)).trans cC.symm)⟩
             · omega
         · refine tt ⟨?_,(congrArg _ (?_ : ((dP p s (bN p s hs)).regs) = (((bi p s hs rs).s).regs))),(congrArg _ (?_ : ((dP p s (bN p s hs)).mems) = (((bi p s hs rs).s).mems))),(congrArg _ (?_ : pop = ((bi p s hs rs).pops))),(congrArg _ (?_ : put = ((bi p s hs rs).puts))),oK⟩
           all_goals
             rw [FP (by rw [t6 (rs := rs) (a := fir) (b := fi2) (by rw [hfir,hie]) (by rw [hfi2,hme])]; simpa using hc86)]
             first | done | (simpa using hc86) | (rw [hpop,show q = p.takes.length by omega,dg (by rw [List.length_replicate]; exact Nat.le_refl _)]) | (rw [hput,show t = p.puts.length by omega,dg (by rw [List.length_replicate]; exact Nat.le_refl _)])
abbrev GJ (a b : List Int) : Ct := ⟨20,[(LI a),(LI b)],false,(dB (decide (a = b)))⟩
abbrev qQ (a : List Int) (b : List Int) : Lp (Nat) := fB [0,1,5] 0 (fun (k : Nat) => ⟨[(0,(LI a)),(1,(LI b)),(5,(i6 (k : Int)))],[]⟩) (fun (k : Nat) => k ≤ a.length∧∀ z,z < k → a.getD z 0 = b.getD z 0) (fun (k : Nat) => a.length - k)
theorem qR (a b : List Int) (ha : a.length ≤ 9223372036854775807) : CC (GJ a b) := by
 refine ap.vc (V := TT 6 (CN ((a.length : Int) = (b.length : Int)) (TT 2 (false = (decide (a = b))∧True)) (TT 1 (GO (qQ a b) 0 (∀ k,(qQ a b).inv k → TT 4 (CD ((k : Int) < (a.length : Int)) (TT 2 (IX (k : Int) a.length∧TT 3 (IX (k : Int) b.length∧TT 2 (CN ((a.getD k 0) = (b.getD k 0)) (TT 2 (false = (decide (a = b))∧True)) (TT 1 (W6 ((k + 1 : Nat) : Int)∧TT 1 (AG (qQ a b) k (k + 1)))))))) (TT 2 (true = (decide (a = b))∧True)))))))) (.b 10 (.e) (.l (qQ a b) 0 (fun k => .b 14 (.b 25 (.e) (.w 5 [(1,.val (i6 ((k + 1 : Nat) : Int)))] <| .e)) (.e)))) Try.func20 rfl rfl rfl (by kernel_rfl) ?_
 refine tt (cn (fun hc10 => ?_) (fun hc10 => ?_))
 · refine tt ⟨?_,oK⟩
   first | exact (decide_eq_false (fun e => by subst e; omega)).symm | exact (decide_eq_false (same_no (k := k) (by simpa using hc25))).symm | exact (decide_eq_true (dh (by omega) (by omega) hall)).symm
 · refine tt ⟨rfl,⟨by omega,fun z hz => by omega⟩,?_⟩
   intro k hinv
   obtain ⟨hk,hall⟩ := hinv
   refine tt (cd (fun hc14 => ?_) (fun hc14 => ?_))
   · refine tt ⟨ix,tt ⟨ix,tt (cn (fun hc25 => ?_) (fun hc25 => ?_))⟩⟩
     · refine tt ⟨?_,oK⟩
       first | exact (decide_eq_false (fun e => by subst e; omega)).symm | exact (decide_eq_false (same_no (k := k) (by simpa using hc25))).symm | exact (decide_eq_true (dh (by omega) (by omega) hall)).symm
     · refine tt ⟨w6,tt ⟨(k + 1),rfl,?_,(?_ : a.length - (k + 1) < a.length - k)⟩⟩
       · exact ⟨by omega,aR hall (by simpa using hc25)⟩
       · omega
   · refine tt ⟨?_,oK⟩
     first | exact (decide_eq_false (fun e => by subst e; omega)).symm | exact (decide_eq_false (same_no (k := k) (by simpa using hc25))).symm | exact (decide_eq_true (dh (by omega) (by omega) hall)).symm
abbrev Ly (a b : Ps) : Ct := ⟨44,[(.agg [(LI a.regs),(dL 1 ab [] a.mems)]),(.agg [(LI b.regs),(dL 1 ab [] b.mems)])],false,(dB (dj a b))⟩
abbrev mb (a : Ps) (b : Ps) : Lp (Nat) := fB [2,3,5] 2 (fun (k : Nat) => ⟨[(2,lk),(3,(.ptr 1 0 0 0)),(5,(i6 (k : Int)))],[(.var 74 [(LI a.regs),(dL 1 ab [] a.mems)]),(.var 74 [(LI b.regs),(dL 1 ab [] b.mems)])]⟩) (fun (k : Nat) => k ≤ a.mems.length∧∀ z,z < k → a.mems.getD z [] = b.mems.getD z []) (fun (k : Nat) => a.mems.length - k)
theorem B2 (a b : Ps) (ha : a.regs.length ≤ 9223372036854775807) (hb : a.mems.length ≤ 9223372036854775807) (hc : ∀ i,(a.mems.getD i []).length ≤ 9223372036854775807) : CC (Ly a b) := by
 refine ap.vc (V := TT 3 (CS (a.regs = b.regs) (TT 4 (CC (GJ a.regs b.regs)∧TT 1 ((True∧(!decide (a.regs = b.regs)) = false)∧TT 8 (CN ((a.mems.length : Int) = (b.mems.length : Int)) (TT 2 (false = (dj a b)∧True)) (TT 1 (GO (mb a b) 0 (∀ k,(mb a b).inv k → TT 5 (CD ((k : Int) < (a.mems.length : Int)) (TT 3 (IX (k : Int) a.mems.length∧TT 4 (IX (k : Int) b.mems.length∧TT 1 (CC (GJ (a.mems.getD k []) (b.mems.getD k []))∧TT 1 (CN ((a.mems.getD k []) = (b.mems.getD k [])) (TT 2 (false = (dj a b)∧True)) (TT 1 (W6 ((k + 1 : Nat) : Int)∧TT 1 (AG (mb a b) k (k + 1))))))))) (TT 2 (true = (dj a b)∧True)))))))))) (TT 4 (CC (GJ a.regs b.regs)∧TT 1 ((True∧(!decide (a.regs = b.regs)) = true)∧TT 10 (false = (dj a b)∧True)))))) (.s 1 (a.regs = b.regs) (.w 1 [(4,(GJ a.regs b.regs).O),(6,.val (dB false))] <| .b 20 (.e) (.l (mb a b) 0 (fun k => .b 25 (.w 6 [(10,(GJ (a.mems.getD k []) (b.mems.getD k [])).O)] <| .b 39 (.e) (.w 5 [(1,.val (i6 ((k + 1 : Nat) : Int)))] <| .e)) (.e)))) (.w 1 [(4,(GJ a.regs b.regs).O),(6,.val (dB true))] <| .e)) Try.func44 rfl rfl rfl (by kernel_rfl) ?_
 refine tt ⟨fun hs0 => ?_,fun hs0 => ?_⟩
 · refine tt ⟨(qR a.regs b.regs ha),tt ⟨(nF hs0),tt (cn (fun hc20 => ?_) (fun hc20 => ?_))⟩⟩
   · refine tt ⟨?_,oK⟩
     first | exact (jZ (by simpa using hs0)).symm | exact (j4 (by omega)).symm | exact (j5 (i := k) (by simpa using hc39)).symm | exact (j6 (by simpa using hs0) (dh (by omega) (by omega) hall)).symm
   · refine tt ⟨rfl,⟨by omega,fun z hz => by omega⟩,?_⟩
     intro k hinv
     obtain ⟨hk,hall⟩ := hinv
     refine tt (cd (fun hc25 => ?_) (fun hc25 => ?_))
     · refine tt ⟨ix,tt ⟨ix,tt ⟨(qR (a.mems.getD k []) (b.mems.getD k []) (hc k)),tt (cn (fun hc39 => ?_) (fun hc39 => ?_))⟩⟩⟩
       · refine tt ⟨?_,oK⟩
         first | exact (jZ (by simpa using hs0)).symm | exact (j4 (by omega)).symm | exact (j5 (i := k) (by simpa using hc39)).symm | exact (j6 (by simpa using hs0) (dh (by omega) (by omega) hall)).symm
       · refine tt ⟨w6,tt ⟨(k + 1),rfl,?_,(?_ : a.mems.length - (k + 1) < a.mems.length - k)⟩⟩
         · exact ⟨by omega,aR hall (by simpa using hc39)⟩
         · omega
     · refine tt ⟨?_,oK⟩
       first | exact (jZ (by simpa using hs0)).symm | exact (j4 (by omega)).symm | exact (j5 (i := k) (by simpa using hc39)).symm | exact (j6 (by simpa using hs0) (dh (by omega) (by omega) hall)).symm
 · refine tt ⟨(qR a.regs b.regs ha),tt ⟨(nT hs0),tt ⟨?_,oK⟩⟩⟩
   first | exact (jZ (by simpa using hs0)).symm | exact (j4 (by omega)).symm | exact (j5 (i := k) (by simpa using hc39)).symm | exact (j6 (by simpa using hs0) (dh (by omega) (by omega) hall)).symm
end Go.Proofs.Ytnlmlkbaflmgcaa
