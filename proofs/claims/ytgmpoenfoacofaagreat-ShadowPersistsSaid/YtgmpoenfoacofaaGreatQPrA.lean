/-
  Package process: values of expressions.
-/
import Derived.Test.YtgmpoenfoacofaaGreatQVbM
import Derived.Test.YtgmpoenfoacofaaGreatQPrQ
namespace Go.Proofs.YtgmpoenfoacofaaGreat
open Go.RowKit
set_option linter.unusedVariables false
set_option linter.unusedSimpArgs false
set_option maxRecDepth 100000
abbrev yo (p : Pr) (s : Ps) (data : List Int) (n : Nat) (e : Ex) : Ct := ⟨113,[(.agg [(dS p.name),(dS p.clock),(dL 13 jj bJ p.regs),(dL 27 qX aK p.mems),(dL 9 jW bK p.takes),(dL 16 ib bp p.puts),(LI s.regs),(dL 1 ac [] s.mems),(LI data)]),(.agg [(i6 e.op),(dS e.name),(i6 e.k.n),(dS e.k.p),(i6 e.w.n),(dS e.w.p),(dL 7 (eA n) dE e.args)])],false,(.tup [(i6 ((a8 p s data e).1)),(i6 ((a8 p s data e).2))])⟩
abbrev yp (p : Pr) (s : Ps) (data : List Int) (n : Nat) (e : Ex) : Lp (Nat) := fG [2,3,6,9,10,90,91,92] 4 (fun (i : Nat) => ⟨[(2,(.ptr 0 0 0 0)),(3,(.ptr 1 0 0 0)),(6,(i6 e.k.n)),(9,(.own 2)),(10,(.own 3)),(90,(dL 7 (eA (n + 1)) dE e.args)),(91,(i6 (e.args.length : Int))),(92,(i6 (i : Int)))],[(.var 219 [(dS p.name),(dS p.clock),(dL 13 jj bJ p.regs),(dL 27 qX aK p.mems),(dL 9 jW bK p.takes),(dL 16 ib bp p.puts),(LI s.regs),(dL 1 ac [] s.mems),(LI data)]),(.var 74 [(i6 e.op),(dS e.name),(i6 e.k.n),(dS e.k.p),(i6 e.w.n),(dS e.w.p),(dL 7 (eA (n + 1)) dE e.args)]),(.arr 3 1 (ae .i64) 0 (eN p s data (e.args.take i))),(.arr 3 1 (ae .i64) 0 (cS p s data (e.args.take i)))]⟩) (fun (i : Nat) => i ≤ e.args.length) (fun (i : Nat) => e.args.length - i)
theorem Gt (p : Pr) (s : Ps) (data : List Int) (n : Nat) (e : Ex) (c : Sc) (v : Int) (ho : rL c p s data) (ht : eT c e = some v) (ih : ∀ a ∈ e.args,CC (yo p s data n a)) : CC (yo p s data (n + 1) e) := by
 have hal := Gr ht
 refine af.vc (V := TT 12 (CD (e.op = 16) (TT 4 (IX e.k.n s.regs.length∧TT 5 (IX e.k.n p.regs.length∧TT 6 (((s.regs.getD e.k.n.toNat 0) = ((a8 p s data e).1)∧((p.regs.getD e.k.n.toNat bJ).w) = ((a8 p s data e).2)∧True)∧(True∧True∧True))))) (TT 2 (CD (e.op = 18) (TT 3 (IX e.k.n data.length∧TT 5 (IX e.k.n p.takes.length∧TT 6 (((data.getD e.k.n.toNat 0) = ((a8 p s data e).1)∧((p.takes.getD e.k.n.toNat bK).w) = ((a8 p s data e).2)∧True)∧(True∧True∧True))))) (TT 2 (CD (e.op = 17) (TT 3 (IX 0 e.args.length∧TT 1 (CC (yo p s data n (e.args.getD 0 dE))∧TT 9 (IX e.k.n s.mems.length∧TT 6 (IX e.k.n s.mems.length∧TT 2 ((((s.mems.getD e.k.n.toNat []).length : Nat) : Int) ≠ 0∧IX (Int.tmod ((a8 p s data (e.args.getD 0 dE)).1) (((s.mems.getD e.k.n.toNat []).length : Nat) : Int)) ((s.mems.getD e.k.n.toNat []).length)∧TT 5 (IX e.k.n p.mems.length∧TT 6 ((((s.mems.getD e.k.n.toNat []).getD ((Int.tmod ((a8 p s data (e.args.getD 0 dE)).1) (((s.mems.getD e.k.n.toNat []).length : Nat) : Int)).toNat) 0) = ((a8 p s data e).1)∧((p.mems.getD e.k.n.toNat aK).w) = ((a8 p s data e).2)∧True)∧(True∧True∧True))))))))) (TT 6 (GO (yp p s data n e) 0 (∀ i,(yp p s data n e).inv i → TT 1 (CD ((i : Int) < (e.args.length : Int)) (IX (i : Int) e.args.length∧TT 5 (CC (yo p s data n (e.args.getD i dE))∧TT 7 (an [[(i6 ((a8 p s data (e.args.getD i dE)).1))]] ([(a8 p s data (e.args.getD i dE)).1].map (ae .i64))∧((eN p s data (e.args.take i)).length + ([(a8 p s data (e.args.getD i dE)).1].map (ae .i64)).length ≤ 137438953472∧(eN p s data (e.args.take i)).map (ae .i64) ++ [(a8 p s data (e.args.getD i dE)).1].map (ae .i64) = (eN p s data (e.args.take (i + 1))).map (ae .i64))∧TT 2 (an [[(i6 ((a8 p s data (e.args.getD i dE)).2))]] ([(a8 p s data (e.args.getD i dE)).2].map (ae .i64))∧((cS p s data (e.args.take i)).length + ([(a8 p s data (e.args.getD i dE)).2].map (ae .i64)).length ≤ 137438953472∧(cS p s data (e.args.take i)).map (ae .i64) ++ [(a8 p s data (e.args.getD i dE)).2].map (ae .i64) = (cS p s data (e.args.take (i + 1))).map (ae .i64))∧TT 2 (W6 ((i + 1 : Nat) : Int)∧TT 1 (AG (yp p s data n e) i (i + 1))))))) (TT 11 ((0 ≤ (0 : Int)∧(0 : Int) ≤ (2 : Int)∧(2 : Int) ≤ (2 : Int))∧CK (Kb e.op (cS p s data (e.args.take i)) (eN p s data (e.args.take i)) [e.k.n,e.w.n])∧TT 9 (CK (Ka e.op (cS p s data (e.args.take i)) e.k.n e.w.n)∧TT 11 (((cz e.op (cS p s data (e.args.take i)) (eN p s data (e.args.take i)) [e.k.n,e.w.n]) = ((a8 p s data e).1)∧(bS e.op (cS p s data (e.args.take i)) e.k.n e.w.n) = ((a8 p s data e).2)∧True)∧(True∧True∧True))))))))))))))) (.b 25 (.e) (.b 40 (.e) (.b 54 (.w 8 [(5,(yo p s data n (e.args.getD 0 dE)).O)] <| .e) (.gs 11 9 3 1 (ae .i64) 0 <| .gs 11 10 3 1 (ae .i64) 0 <| .l (yp p s data n e) 0 (fun i => .b 93 (.w 14 [(2,(yo p s data n (e.args.getD i dE)).O)] <| .w 15 [(2,.box 3 1 (ae .i64) 0 [(a8 p s data (e.args.getD i dE)).1]),(3,.box 3 1 (ae .i64) 0 (eN p s data (e.args.take (i + 1)))),(6,.box 3 1 (ae .i64) 0 [(a8 p s data (e.args.getD i dE)).2]),(7,.box 3 1 (ae .i64) 0 (cS p s data (e.args.take (i + 1))))] <| .w 16 [(0,.val (i6 ((i + 1 : Nat) : Int)))] <| .e) (.f 18 4 <| .w 18 [(5,(Kb e.op (cS p s data (e.args.take i)) (eN p s data (e.args.take i)) [e.k.n,e.w.n]).O')] <| .w 19 [(4,(Ka e.op (cS p s data (e.args.take i)) e.k.n e.w.n).O')] <| .e)))))) Tryz.func113 rfl rfl rfl (by kernel_rfl) ?_
 refine tt (cd (fun hc25 => ?_) (fun hc25 => ?_))
 · obtain ⟨h1,h2,h3⟩ := Gs ho ht hc25
   refine tt ⟨ix,tt ⟨ix,tt ⟨⟨?_,?_,oK⟩,⟨oK,oK,oK⟩⟩⟩⟩
   all_goals (first | exact (eM hc25).1.symm | exact (eM hc25).2.symm | exact (db hc40).1.symm | exact (db hc40).2.symm | exact (dc hc54 hlen).1.symm | exact (dc hc54 hlen).2.symm | (rw [hie,List.take_length]; exact (gQ hc25 hc40 hc54).1.symm) | (rw [hie,List.take_length]; exact (gQ hc25 hc40 hc54).2.symm))
 · refine tt (cd (fun hc40 => ?_) (fun hc40 => ?_))
   · obtain ⟨h1,h2,h3⟩ := CL ho ht hc40
     refine tt ⟨ix,tt ⟨ix,tt ⟨⟨?_,?_,oK⟩,⟨oK,oK,oK⟩⟩⟩⟩
     all_goals (first | exact (eM hc25).1.symm | exact (eM hc25).2.symm | exact (db hc40).1.symm | exact (db hc40).2.symm | exact (dc hc54 hlen).1.symm | exact (dc hc54 hlen).2.symm | (rw [hie,List.take_length]; exact (gQ hc25 hc40 hc54).1.symm) | (rw [hie,List.take_length]; exact (gQ hc25 hc40 hc54).2.symm))
   · refine tt (cd (fun hc54 => ?_) (fun hc54 => ?_))
     · obtain ⟨h1,h2,h3,hlen,h4,h5,h6⟩ := CM ho ht hc54
       refine tt ⟨ix,tt ⟨(ih _ (ic (by omega))),tt ⟨ix,tt ⟨ix,tt ⟨om,⟨ix,tt ⟨ix,tt ⟨⟨?_,?_,oK⟩,⟨oK,oK,oK⟩⟩⟩⟩⟩⟩⟩⟩⟩
       all_goals (first | exact (eM hc25).1.symm | exact (eM hc25).2.symm | exact (db hc40).1.symm | exact (db hc40).2.symm | exact (dc hc54 hlen).1.symm | exact (dc hc54 hlen).2.symm | (rw [hie,List.take_length]; exact (gQ hc25 hc40 hc54).1.symm) | (rw [hie,List.take_length]; exact (gQ hc25 hc40 hc54).2.symm))
     · refine tt ⟨rfl,(by omega),?_⟩
       intro i hinv
       have hi := hinv
       refine tt (cd (fun hc93 => ?_) (fun hc93 => ?_))
       · refine ⟨ix,tt ⟨(ih _ (ic (by omega))),tt ⟨⟨⟨rfl,oK⟩,oK⟩,⟨⟨by first | (simp [eN]; done) | (simp [eN]; omega),by rw [xd (by omega),List.map_append]⟩,tt ⟨⟨⟨rfl,oK⟩,oK⟩,⟨⟨by first | (simp [cS]; done) | (simp [cS]; omega),by rw [xe (by omega),List.map_append]⟩,tt ⟨w6,tt ⟨(i + 1),rfl,(?_ : (i + 1) ≤ e.args.length),(?_ : e.args.length - (i + 1) < e.args.length - i)⟩⟩⟩⟩⟩⟩⟩⟩
         · omega
         · omega
       · have hie : i = e.args.length := by omega
         refine tt ⟨om,⟨⟨cR _ rfl,(Gm e.op (cS p s data (e.args.take i)) (eN p s data (e.args.take i)) [e.k.n,e.w.n] (by rw [qc,List.length_take]; omega) (by rw [uX,List.length_take]; omega))⟩,tt ⟨⟨cR _ rfl,(Gl e.op (cS p s data (e.args.take i)) e.k.n e.w.n (by rw [qc,List.length_take]; omega))⟩,tt ⟨⟨?_,?_,oK⟩,⟨oK,oK,oK⟩⟩⟩⟩⟩
         all_goals (first | exact (eM hc25).1.symm | exact (eM hc25).2.symm | exact (db hc40).1.symm | exact (db hc40).2.symm | exact (dc hc54 hlen).1.symm | exact (dc hc54 hlen).2.symm | (rw [hie,List.take_length]; exact (gQ hc25 hc40 hc54).1.symm) | (rw [hie,List.take_length]; exact (gQ hc25 hc40 hc54).2.symm))
theorem CP {c : Sc} {p : Pr} {s : Ps} {data : List Int} (ho : rL c p s data) : ∀ (n : Nat) (e : Ex) (v : Int),eT c e = some v → fF e ≤ n + 1 → CC (yo p s data n e)
  | 0,e,v,ht,hd => by
    have ha : e.args = [] := by
      cases hl : e.args with
      | nil => rfl
      | cons a r =>
        have := tu (e := e) (a := a) (by rw [hl]; simp)
        cases a with | mk op name k w args => rw [fF] at this; omega
    have h := Gt p s data 0 e c v ho ht (fun a h => by rw [ha] at h; cases h)
    refine af.recast ?_ h
    refine ⟨uQ _ rfl,⟨rfl,rfl,rfl,rfl,rfl,rfl,?_,oK⟩,oK⟩
    show e.args.map (eA 0) = e.args.map (eA 1)
    rw [ha]; rfl
  | n + 1,e,v,ht,hd => Gt p s data n e c v ho ht (fun a h => by
    obtain ⟨w,hw⟩ := Gq ht h
    exact CP ho n a w hw (by have := tu h; omega))
end Go.Proofs.YtgmpoenfoacofaaGreat
