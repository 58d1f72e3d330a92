/-
  Package process: values of expressions.
-/
import Derived.Test.YtgfbfajaaaegjaaQVbM
import Derived.Test.YtgfbfajaaaegjaaQPrQ
namespace Go.Proofs.Ytgfbfajaaaegjaa
open Go.RowKit
set_option linter.unusedVariables false
set_option linter.unusedSimpArgs false
set_option maxRecDepth 100000
abbrev yO (p : Pr) (s : Ps) (data : List Int) (n : Nat) (e : Ex) : Ct := ⟨46,[(.agg [(dS p.name),(dS p.clock),(dL 13 bR aI p.regs),(dL 27 dD aj p.mems),(dL 9 bV bp p.takes),(dL 16 bS bj p.puts),(LI s.regs),(dL 1 aJ [] s.mems),(LI data)]),(.agg [(i6 e.op),(dS e.name),(i6 e.k.n),(dS e.k.p),(i6 e.w.n),(dS e.w.p),(dL 7 (eA n) dE e.args)])],false,(.tup [(i6 ((bk p s data e).1)),(i6 ((bk p s data e).2))])⟩
abbrev tr (p : Pr) (s : Ps) (data : List Int) (n : Nat) (e : Ex) : Lp (Nat) := iT [2,3,6,9,10,90,91,92] 4 (fun (i : Nat) => ⟨[(2,(.ptr 0 0 0 0)),(3,(.ptr 1 0 0 0)),(6,(i6 e.k.n)),(9,(.own 2)),(10,(.own 3)),(90,(dL 7 (eA (n + 1)) dE e.args)),(91,(i6 (e.args.length : Int))),(92,(i6 (i : Int)))],[(.var 113 [(dS p.name),(dS p.clock),(dL 13 bR aI p.regs),(dL 27 dD aj p.mems),(dL 9 bV bp p.takes),(dL 16 bS bj p.puts),(LI s.regs),(dL 1 aJ [] s.mems),(LI data)]),(.var 60 [(i6 e.op),(dS e.name),(i6 e.k.n),(dS e.k.p),(i6 e.w.n),(dS e.w.p),(dL 7 (eA (n + 1)) dE e.args)]),(.arr 3 1 (ac .i64) 0 (jF p s data (e.args.take i))),(.arr 3 1 (ac .i64) 0 (gH p s data (e.args.take i)))]⟩) (fun (i : Nat) => i ≤ e.args.length) (fun (i : Nat) => e.args.length - i)
theorem yP (p : Pr) (s : Ps) (data : List Int) (n : Nat) (e : Ex) (c : Sc) (v : Int) (ho : pD c p s data) (ht : cU c e = some v) (ih : ∀ a ∈ e.args,CC (yO p s data n a)) : CC (yO p s data (n + 1) e) := by
 have hal := yL ht
 refine ai.vc (V := TT 12 (CD (e.op = 16) (TT 4 (IX e.k.n s.regs.length∧TT 5 (IX e.k.n p.regs.length∧TT 6 (((s.regs.getD e.k.n.toNat 0) = ((bk p s data e).1)∧((p.regs.getD e.k.n.toNat aI).w) = ((bk p s data e).2)∧True)∧(True∧True∧True))))) (TT 2 (CD (e.op = 18) (TT 3 (IX e.k.n data.length∧TT 5 (IX e.k.n p.takes.length∧TT 6 (((data.getD e.k.n.toNat 0) = ((bk p s data e).1)∧((p.takes.getD e.k.n.toNat bp).w) = ((bk p s data e).2)∧True)∧(True∧True∧True))))) (TT 2 (CD (e.op = 17) (TT 3 (IX 0 e.args.length∧TT 1 (CC (yO p s data n (e.args.getD 0 dE))∧TT 9 (IX e.k.n s.mems.length∧TT 6 (IX e.k.n s.mems.length∧TT 2 ((((s.mems.getD e.k.n.toNat []).length : Nat) : Int) ≠ 0∧IX (Int.tmod ((bk p s data (e.args.getD 0 dE)).1) (((s.mems.getD e.k.n.toNat []).length : Nat) : Int)) ((s.mems.getD e.k.n.toNat []).length)∧TT 5 (IX e.k.n p.mems.length∧TT 6 ((((s.mems.getD e.k.n.toNat []).getD ((Int.tmod ((bk p s data (e.args.getD 0 dE)).1) (((s.mems.getD e.k.n.toNat []).length : Nat) : Int)).toNat) 0) = ((bk p s data e).1)∧((p.mems.getD e.k.n.toNat aj).w) = ((bk p s data e).2)∧True)∧(True∧True∧True))))))))) (TT 6 (GO (tr p s data n e) 0 (∀ i,(tr p s data n e).inv i → TT 1 (CD ((i : Int) < (e.args.length : Int)) (IX (i : Int) e.args.length∧TT 5 (CC (yO p s data n (e.args.getD i dE))∧TT 7 (ay [[(i6 ((bk p s data (e.args.getD i dE)).1))]] ([(bk p s data (e.args.getD i dE)).1].map (ac .i64))∧((jF p s data (e.args.take i)).length + ([(bk p s data (e.args.getD i dE)).1].map (ac .i64)).length ≤ 137438953472∧(jF p s data (e.args.take i)).map (ac .i64) ++ [(bk p s data (e.args.getD i dE)).1].map (ac .i64) = (jF p s data (e.args.take (i + 1))).map (ac .i64))∧TT 2 (ay [[(i6 ((bk p s data (e.args.getD i dE)).2))]] ([(bk p s data (e.args.getD i dE)).2].map (ac .i64))∧((gH p s data (e.args.take i)).length + ([(bk p s data (e.args.getD i dE)).2].map (ac .i64)).length ≤ 137438953472∧(gH p s data (e.args.take i)).map (ac .i64) ++ [(bk p s data (e.args.getD i dE)).2].map (ac .i64) = (gH p s data (e.args.take (i + 1))).map (ac .i64))∧TT 2 (W6 ((i + 1 : Nat) : Int)∧TT 1 (AG (tr p s data n e) i (i + 1))))))) (TT 11 ((0 ≤ (0 : Int)∧(0 : Int) ≤ (2 : Int)∧(2 : Int) ≤ (2 : Int))∧CK (C0 e.op (gH p s data (e.args.take i)) (jF p s data (e.args.take i)) [e.k.n,e.w.n])∧TT 9 (CK (CZ e.op (gH p s data (e.args.take i)) e.k.n e.w.n)∧TT 11 (((dp e.op (gH p s data (e.args.take i)) (jF p s data (e.args.take i)) [e.k.n,e.w.n]) = ((bk p s data e).1)∧(fw e.op (gH p s data (e.args.take i)) e.k.n e.w.n) = ((bk p s data e).2)∧True)∧(True∧True∧True))))))))))))))) (.b 25 (.e) (.b 40 (.e) (.b 54 (.w 8 [(5,(yO p s data n (e.args.getD 0 dE)).O)] <| .e) (.gs 11 9 3 1 (ac .i64) 0 <| .gs 11 10 3 1 (ac .i64) 0 <| .l (tr p s data n e) 0 (fun i => .b 93 (.w 14 [(2,(yO p s data n (e.args.getD i dE)).O)] <| .w 15 [(2,.box 3 1 (ac .i64) 0 [(bk p s data (e.args.getD i dE)).1]),(3,.box 3 1 (ac .i64) 0 (jF p s data (e.args.take (i + 1)))),(6,.box 3 1 (ac .i64) 0 [(bk p s data (e.args.getD i dE)).2]),(7,.box 3 1 (ac .i64) 0 (gH p s data (e.args.take (i + 1))))] <| .w 16 [(0,.val (i6 ((i + 1 : Nat) : Int)))] <| .e) (.f 18 4 <| .w 18 [(5,(C0 e.op (gH p s data (e.args.take i)) (jF p s data (e.args.take i)) [e.k.n,e.w.n]).O')] <| .w 19 [(4,(CZ e.op (gH p s data (e.args.take i)) e.k.n e.w.n).O')] <| .e)))))) Try.func46 rfl rfl rfl (by kernel_rfl) ?_
 refine tt (cd (fun hc25 => ?_) (fun hc25 => ?_))
 · obtain ⟨h1,h2,h3⟩ := yM ho ht hc25
   refine tt ⟨ix,tt ⟨ix,tt ⟨⟨?_,?_,oK⟩,⟨oK,oK,oK⟩⟩⟩⟩
   all_goals (first | exact (jV hc25).1.symm | exact (jV hc25).2.symm | exact (hC hc40).1.symm | exact (hC hc40).2.symm | exact (hD hc54 hlen).1.symm | exact (hD hc54 hlen).2.symm | (rw [hie,List.take_length]; exact (pj hc25 hc40 hc54).1.symm) | (rw [hie,List.take_length]; exact (pj hc25 hc40 hc54).2.symm))
 · refine tt (cd (fun hc40 => ?_) (fun hc40 => ?_))
   · obtain ⟨h1,h2,h3⟩ := wC ho ht hc40
     refine tt ⟨ix,tt ⟨ix,tt ⟨⟨?_,?_,oK⟩,⟨oK,oK,oK⟩⟩⟩⟩
     all_goals (first | exact (jV hc25).1.symm | exact (jV hc25).2.symm | exact (hC hc40).1.symm | exact (hC hc40).2.symm | exact (hD hc54 hlen).1.symm | exact (hD hc54 hlen).2.symm | (rw [hie,List.take_length]; exact (pj hc25 hc40 hc54).1.symm) | (rw [hie,List.take_length]; exact (pj hc25 hc40 hc54).2.symm))
   · refine tt (cd (fun hc54 => ?_) (fun hc54 => ?_))
     · obtain ⟨h1,h2,h3,hlen,h4,h5,h6⟩ := wD ho ht hc54
       refine tt ⟨ix,tt ⟨(ih _ (gk (by omega))),tt ⟨ix,tt ⟨ix,tt ⟨om,⟨ix,tt ⟨ix,tt ⟨⟨?_,?_,oK⟩,⟨oK,oK,oK⟩⟩⟩⟩⟩⟩⟩⟩⟩
       all_goals (first | exact (jV hc25).1.symm | exact (jV hc25).2.symm | exact (hC hc40).1.symm | exact (hC hc40).2.symm | exact (hD hc54 hlen).1.symm | exact (hD hc54 hlen).2.symm | (rw [hie,List.take_length]; exact (pj hc25 hc40 hc54).1.symm) | (rw [hie,List.take_length]; exact (pj hc25 hc40 hc54).2.symm))
     · refine tt ⟨rfl,(by omega),?_⟩
       intro i hinv
       have hi := hinv
       refine tt (cd (fun hc93 => ?_) (fun hc93 => ?_))
       · refine ⟨ix,tt ⟨(ih _ (gk (by omega))),tt ⟨⟨⟨rfl,oK⟩,oK⟩,⟨⟨by first | (simp [jF]; done) | (simp [jF]; omega),by rw [xB (by omega),List.map_append]⟩,tt ⟨⟨⟨rfl,oK⟩,oK⟩,⟨⟨by first | (simp [gH]; done) | (simp [gH]; omega),by rw [xC (by omega),List.map_append]⟩,tt ⟨w6,tt ⟨(i + 1),rfl,(?_ : (i + 1) ≤ e.args.length),(?_ : e.args.length - (i + 1) < e.args.length - i)⟩⟩⟩⟩⟩⟩⟩⟩
         · omega
         · omega
       · have hie : i = e.args.length := by omega
         refine tt ⟨om,⟨⟨d9 _ rfl,(yJ e.op (gH p s data (e.args.take i)) (jF p s data (e.args.take i)) [e.k.n,e.w.n] (by rw [uA,List.length_take]; omega) (by rw [yN,List.length_take]; omega))⟩,tt ⟨⟨d9 _ rfl,(yI e.op (gH p s data (e.args.take i)) e.k.n e.w.n (by rw [uA,List.length_take]; omega))⟩,tt ⟨⟨?_,?_,oK⟩,⟨oK,oK,oK⟩⟩⟩⟩⟩
         all_goals (first | exact (jV hc25).1.symm | exact (jV hc25).2.symm | exact (hC hc40).1.symm | exact (hC hc40).2.symm | exact (hD hc54 hlen).1.symm | exact (hD hc54 hlen).2.symm | (rw [hie,List.take_length]; exact (pj hc25 hc40 hc54).1.symm) | (rw [hie,List.take_length]; exact (pj hc25 hc40 hc54).2.symm))
theorem ts {c : Sc} {p : Pr} {s : Ps} {data : List Int} (ho : pD c p s data) : ∀ (n : Nat) (e : Ex) (v : Int),cU c e = some v → da e ≤ n + 1 → CC (yO p s data n e)
  | 0,e,v,ht,hd => by
    have ha : e.args = [] := by
      cases hl : e.args with
      | nil => rfl
      | cons a r =>
        have := kC (e := e) (a := a) (by rw [hl]; simp)
        cases a with | mk op name k w args => rw [da] at this; omega
    have h := yP p s data 0 e c v ho ht (fun a h => by rw [ha] at h; cases h)
    refine ai.recast ?_ h
    refine ⟨uu _ rfl,⟨rfl,rfl,rfl,rfl,rfl,rfl,?_,oK⟩,oK⟩
    show e.args.map (eA 0) = e.args.map (eA 1)
    rw [ha]; rfl
  | n + 1,e,v,ht,hd => yP p s data n e c v ho ht (fun a h => by
    obtain ⟨w,hw⟩ := vC ht h
    exact ts ho n a w hw (by have := kC h; omega))
abbrev su (p : Pr) (s : Ps) (data : List Int) (e : Ex) : Ct := ⟨25,[(.agg [(dS p.name),(dS p.clock),(dL 13 bR aI p.regs),(dL 27 dD aj p.mems),(dL 9 bV bp p.takes),(dL 16 bS bj p.puts)]),(.agg [(LI s.regs),(dL 1 aJ [] s.mems)]),(LI data),(.agg [(i6 e.op),(dS e.name),(i6 e.k.n),(dS e.k.p),(i6 e.w.n),(dS e.w.p),(dL 7 (eA 2) dE e.args)])],false,(i6 ((bk p s data e).1))⟩
theorem gf (p : Pr) (s : Ps) (data : List Int) (e : Ex) (c : Sc) (v : Int) (ho : pD c p s data) (ht : cU c e = some v) (hd : da e ≤ 3) : CC (su p s data e) := by
 refine ai.vc (V := TT 9 (CC (yO p s data 2 e)∧TT 8 (((bk p s data e).1) = ((bk p s data e).1)∧True))) (.w 1 [(5,(yO p s data 2 e).O)] <| .e) Try.func25 rfl rfl rfl (by kernel_rfl) ?_
 exact tt ⟨(ts ho 2 e _ ht hd),tt ⟨rfl,oK⟩⟩
end Go.Proofs.Ytgfbfajaaaegjaa
