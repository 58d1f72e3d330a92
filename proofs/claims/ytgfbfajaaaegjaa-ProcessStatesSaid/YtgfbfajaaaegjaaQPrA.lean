/-
  Package process: values of expressions.
-/
import Derived.Test.YtgfbfajaaaegjaaQVbM
import Derived.Test.YtgfbfajaaaegjaaQPrQ
namespace Go.Proofs.Ytgfbfajaaaegjaa
open Go.RowKit
set_option linter.unusedVariables false
set_option linter.unusedSimpArgs false
set_option maxRecDepth 100000
abbrev zn (p : Pr) (s : Ps) (data : List Int) (n : Nat) (e : Ex) : Ct := ⟨46,[(.agg [(dS p.name),(dS p.clock),(dL 13 bU aA p.regs),(dL 27 dG ai p.mems),(dL 9 bV aJ p.takes),(dL 16 bN ay p.puts),(LI s.regs),(dL 1 aL [] s.mems),(LI data)]),(.agg [(i6 e.op),(dS e.name),(i6 e.k.n),(dS e.k.p),(i6 e.w.n),(dS e.w.p),(dL 7 (eA n) dE e.args)])],false,(.tup [(i6 ((bg p s data e).1)),(i6 ((bg p s data e).2))])⟩
abbrev tF (p : Pr) (s : Ps) (data : List Int) (n : Nat) (e : Ex) : Lp (Nat) := lm [2,3,6,9,10,90,91,92] 4 (fun (i : Nat) => ⟨[(2,(.ptr 0 0 0 0)),(3,(.ptr 1 0 0 0)),(6,(i6 e.k.n)),(9,(.own 2)),(10,(.own 3)),(90,(dL 7 (eA (n + 1)) dE e.args)),(91,(i6 (e.args.length : Int))),(92,(i6 (i : Int)))],[(.var 113 [(dS p.name),(dS p.clock),(dL 13 bU aA p.regs),(dL 27 dG ai p.mems),(dL 9 bV aJ p.takes),(dL 16 bN ay p.puts),(LI s.regs),(dL 1 aL [] s.mems),(LI data)]),(.var 60 [(i6 e.op),(dS e.name),(i6 e.k.n),(dS e.k.p),(i6 e.w.n),(dS e.w.p),(dL 7 (eA (n + 1)) dE e.args)]),(.arr 3 1 (ac .i64) 0 (jl p s data (e.args.take i))),(.arr 3 1 (ac .i64) 0 (gc p s data (e.args.take i)))]⟩) (fun (i : Nat) => i ≤ e.args.length) (fun (i : Nat) => e.args.length - i)
theorem zo (p : Pr) (s : Ps) (data : List Int) (n : Nat) (e : Ex) (c : Sc) (v : Int) (ho : qF c p s data) (ht : cz c e = some v) (ih : ∀ a ∈ e.args,CC (zn p s data n a)) : CC (zn p s data (n + 1) e) := by
 have hal := vQ ht
 refine ak.vc (V := TT 12 (CD (e.op = 16) (TT 4 (IX e.k.n s.regs.length∧TT 5 (IX e.k.n p.regs.length∧TT 6 (((s.regs.getD e.k.n.toNat 0) = ((bg p s data e).1)∧((p.regs.getD e.k.n.toNat aA).w) = ((bg p s data e).2)∧True)∧(True∧True∧True))))) (TT 2 (CD (e.op = 18) (TT 3 (IX e.k.n data.length∧TT 5 (IX e.k.n p.takes.length∧TT 6 (((data.getD e.k.n.toNat 0) = ((bg p s data e).1)∧((p.takes.getD e.k.n.toNat aJ).w) = ((bg p s data e).2)∧True)∧(True∧True∧True))))) (TT 2 (CD (e.op = 17) (TT 3 (IX 0 e.args.length∧TT 1 (CC (zn p s data n (e.args.getD 0 dE))∧TT 9 (IX e.k.n s.mems.length∧TT 6 (IX e.k.n s.mems.length∧TT 2 ((((s.mems.getD e.k.n.toNat []).length : Nat) : Int) ≠ 0∧IX (Int.tmod ((bg p s data (e.args.getD 0 dE)).1) (((s.mems.getD e.k.n.toNat []).length : Nat) : Int)) ((s.mems.getD e.k.n.toNat []).length)∧TT 5 (IX e.k.n p.mems.length∧TT 6 ((((s.mems.getD e.k.n.toNat []).getD ((Int.tmod ((bg p s data (e.args.getD 0 dE)).1) (((s.mems.getD e.k.n.toNat []).length : Nat) : Int)).toNat) 0) = ((bg p s data e).1)∧((p.mems.getD e.k.n.toNat ai).w) = ((bg p s data e).2)∧True)∧(True∧True∧True))))))))) (TT 6 (GO (tF p s data n e) 0 (∀ i,(tF p s data n e).inv i → TT 1 (CD ((i : Int) < (e.args.length : Int)) (IX (i : Int) e.args.length∧TT 5 (CC (zn p s data n (e.args.getD i dE))∧TT 7 (az [[(i6 ((bg p s data (e.args.getD i dE)).1))]] ([(bg p s data (e.args.getD i dE)).1].map (ac .i64))∧((jl p s data (e.args.take i)).length + ([(bg p s data (e.args.getD i dE)).1].map (ac .i64)).length ≤ 137438953472∧(jl p s data (e.args.take i)).map (ac .i64) ++ [(bg p s data (e.args.getD i dE)).1].map (ac .i64) = (jl p s data (e.args.take (i + 1))).map (ac .i64))∧TT 2 (az [[(i6 ((bg p s data (e.args.getD i dE)).2))]] ([(bg p s data (e.args.getD i dE)).2].map (ac .i64))∧((gc p s data (e.args.take i)).length + ([(bg p s data (e.args.getD i dE)).2].map (ac .i64)).length ≤ 137438953472∧(gc p s data (e.args.take i)).map (ac .i64) ++ [(bg p s data (e.args.getD i dE)).2].map (ac .i64) = (gc p s data (e.args.take (i + 1))).map (ac .i64))∧TT 2 (W6 ((i + 1 : Nat) : Int)∧TT 1 (AG (tF p s data n e) i (i + 1))))))) (TT 11 ((0 ≤ (0 : Int)∧(0 : Int) ≤ (2 : Int)∧(2 : Int) ≤ (2 : Int))∧CK (DD e.op (gc p s data (e.args.take i)) (jl p s data (e.args.take i)) [e.k.n,e.w.n])∧TT 9 (CK (C3 e.op (gc p s data (e.args.take i)) e.k.n e.w.n)∧TT 11 (((cX e.op (gc p s data (e.args.take i)) (jl p s data (e.args.take i)) [e.k.n,e.w.n]) = ((bg p s data e).1)∧(cu e.op (gc p s data (e.args.take i)) e.k.n e.w.n) = ((bg p s data e).2)∧True)∧(True∧True∧True))))))))))))))) (.b 25 (.e) (.b 40 (.e) (.b 54 (.w 8 [(5,(zn p s data n (e.args.getD 0 dE)).O)] <| .e) (.gs 11 9 3 1 (ac .i64) 0 <| .gs 11 10 3 1 (ac .i64) 0 <| .l (tF p s data n e) 0 (fun i => .b 93 (.w 14 [(2,(zn p s data n (e.args.getD i dE)).O)] <| .w 15 [(2,.box 3 1 (ac .i64) 0 [(bg p s data (e.args.getD i dE)).1]),(3,.box 3 1 (ac .i64) 0 (jl p s data (e.args.take (i + 1)))),(6,.box 3 1 (ac .i64) 0 [(bg p s data (e.args.getD i dE)).2]),(7,.box 3 1 (ac .i64) 0 (gc p s data (e.args.take (i + 1))))] <| .w 16 [(0,.val (i6 ((i + 1 : Nat) : Int)))] <| .e) (.f 18 4 <| .w 18 [(5,(DD e.op (gc p s data (e.args.take i)) (jl p s data (e.args.take i)) [e.k.n,e.w.n]).O')] <| .w 19 [(4,(C3 e.op (gc p s data (e.args.take i)) e.k.n e.w.n).O')] <| .e)))))) Try.func46 rfl rfl rfl (by kernel_rfl) ?_
 refine tt (cd (fun hc25 => ?_) (fun hc25 => ?_))
 · obtain ⟨h1,h2,h3⟩ := Bz ho ht hc25
   refine tt ⟨ix,tt ⟨ix,tt ⟨⟨?_,?_,oK⟩,⟨oK,oK,oK⟩⟩⟩⟩
   all_goals (first | exact (jy hc25).1.symm | exact (jy hc25).2.symm | exact (gA hc40).1.symm | exact (gA hc40).2.symm | exact (gB hc54 hlen).1.symm | exact (gB hc54 hlen).2.symm | (rw [hie,List.take_length]; exact (oZ hc25 hc40 hc54).1.symm) | (rw [hie,List.take_length]; exact (oZ hc25 hc40 hc54).2.symm))
 · refine tt (cd (fun hc40 => ?_) (fun hc40 => ?_))
   · obtain ⟨h1,h2,h3⟩ := Ab ho ht hc40
     refine tt ⟨ix,tt ⟨ix,tt ⟨⟨?_,?_,oK⟩,⟨oK,oK,oK⟩⟩⟩⟩
     all_goals (first | exact (jy hc25).1.symm | exact (jy hc25).2.symm | exact (gA hc40).1.symm | exact (gA hc40).2.symm | exact (gB hc54 hlen).1.symm | exact (gB hc54 hlen).2.symm | (rw [hie,List.take_length]; exact (oZ hc25 hc40 hc54).1.symm) | (rw [hie,List.take_length]; exact (oZ hc25 hc40 hc54).2.symm))
   · refine tt (cd (fun hc54 => ?_) (fun hc54 => ?_))
     · obtain ⟨h1,h2,h3,hlen,h4,h5,h6⟩ := Ac ho ht hc54
       refine tt ⟨ix,tt ⟨(ih _ (eW (by omega))),tt ⟨ix,tt ⟨ix,tt ⟨om,⟨ix,tt ⟨ix,tt ⟨⟨?_,?_,oK⟩,⟨oK,oK,oK⟩⟩⟩⟩⟩⟩⟩⟩⟩
       all_goals (first | exact (jy hc25).1.symm | exact (jy hc25).2.symm | exact (gA hc40).1.symm | exact (gA hc40).2.symm | exact (gB hc54 hlen).1.symm | exact (gB hc54 hlen).2.symm | (rw [hie,List.take_length]; exact (oZ hc25 hc40 hc54).1.symm) | (rw [hie,List.take_length]; exact (oZ hc25 hc40 hc54).2.symm))
     · refine tt ⟨rfl,(by omega),?_⟩
       intro i hinv
       have hi := hinv
       refine tt (cd (fun hc93 => ?_) (fun hc93 => ?_))
       · refine ⟨ix,tt ⟨(ih _ (eW (by omega))),tt ⟨⟨⟨rfl,oK⟩,oK⟩,⟨⟨by first | (simp [jl]; done) | (simp [jl]; omega),by rw [xI (by omega),List.map_append]⟩,tt ⟨⟨⟨rfl,oK⟩,oK⟩,⟨⟨by first | (simp [gc]; done) | (simp [gc]; omega),by rw [xJ (by omega),List.map_append]⟩,tt ⟨w6,tt ⟨(i + 1),rfl,(?_ : (i + 1) ≤ e.args.length),(?_ : e.args.length - (i + 1) < e.args.length - i)⟩⟩⟩⟩⟩⟩⟩⟩
         · omega
         · omega
       · have hie : i = e.args.length := by omega
         refine tt ⟨om,⟨⟨b7 _ rfl,(zm e.op (gc p s data (e.args.take i)) (jl p s data (e.args.take i)) [e.k.n,e.w.n] (by rw [uK,List.length_take]; omega) (by rw [yP,List.length_take]; omega))⟩,tt ⟨⟨b7 _ rfl,(uU e.op (gc p s data (e.args.take i)) e.k.n e.w.n (by rw [uK,List.length_take]; omega))⟩,tt ⟨⟨?_,?_,oK⟩,⟨oK,oK,oK⟩⟩⟩⟩⟩
         all_goals (first | exact (jy hc25).1.symm | exact (jy hc25).2.symm | exact (gA hc40).1.symm | exact (gA hc40).2.symm | exact (gB hc54 hlen).1.symm | exact (gB hc54 hlen).2.symm | (rw [hie,List.take_length]; exact (oZ hc25 hc40 hc54).1.symm) | (rw [hie,List.take_length]; exact (oZ hc25 hc40 hc54).2.symm))
theorem tG {c : Sc} {p : Pr} {s : Ps} {data : List Int} (ho : qF c p s data) : ∀ (n : Nat) (e : Ex) (v : Int),cz c e = some v → ce e ≤ n + 1 → CC (zn p s data n e)
  | 0,e,v,ht,hd => by
    have ha : e.args = [] := by
      cases hl : e.args with
      | nil => rfl
      | cons a r =>
        have := fA (e := e) (a := a) (by rw [hl]; simp)
        cases a with | mk op name k w args => rw [ce] at this; omega
    have h := zo p s data 0 e c v ho ht (fun a h => by rw [ha] at h; cases h)
    refine ak.recast ?_ h
    refine ⟨qD _ rfl,⟨rfl,rfl,rfl,rfl,rfl,rfl,?_,oK⟩,oK⟩
    show e.args.map (eA 0) = e.args.map (eA 1)
    rw [ha]; rfl
  | n + 1,e,v,ht,hd => zo p s data n e c v ho ht (fun a h => by
    obtain ⟨w,hw⟩ := to ht h
    exact tG ho n a w hw (by have := fA h; omega))
abbrev Dm (p : Pr) (s : Ps) (data : List Int) (e : Ex) : Ct := ⟨25,[(.agg [(dS p.name),(dS p.clock),(dL 13 bU aA p.regs),(dL 27 dG ai p.mems),(dL 9 bV aJ p.takes),(dL 16 bN ay p.puts)]),(.agg [(LI s.regs),(dL 1 aL [] s.mems)]),(LI data),(.agg [(i6 e.op),(dS e.name),(i6 e.k.n),(dS e.k.p),(i6 e.w.n),(dS e.w.p),(dL 7 (eA 2) dE e.args)])],false,(i6 ((bg p s data e).1))⟩
theorem AB (p : Pr) (s : Ps) (data : List Int) (e : Ex) (c : Sc) (v : Int) (ho : qF c p s data) (ht : cz c e = some v) (hd : ce e ≤ 3) : CC (Dm p s data e) := by
 refine ak.vc (V := TT 9 (CC (zn p s data 2 e)∧TT 8 (((bg p s data e).1) = ((bg p s data e).1)∧True))) (.w 1 [(5,(zn p s data 2 e).O)] <| .e) Try.func25 rfl rfl rfl (by kernel_rfl) ?_
 exact tt ⟨(tG ho 2 e _ ht hd),tt ⟨rfl,oK⟩⟩
end Go.Proofs.Ytgfbfajaaaegjaa
