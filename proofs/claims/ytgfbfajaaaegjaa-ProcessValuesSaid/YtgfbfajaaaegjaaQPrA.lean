/-
  Package process: values of expressions.
-/
import Derived.Test.YtgfbfajaaaegjaaQVbM
import Derived.Test.YtgfbfajaaaegjaaQPrQ
namespace Go.Proofs.Ytgfbfajaaaegjaa
open Go.RowKit
set_option linter.unusedVariables false
set_option linter.unusedSimpArgs false
set_option maxRecDepth 100000
abbrev zV (p : Pr) (s : Ps) (data : List Int) (n : Nat) (e : Ex) : Ct := ⟨46,[(.agg [(dS p.name),(dS p.clock),(dL 13 bS aM p.regs),(dL 27 dW ax p.mems),(dL 9 bU aX p.takes),(dL 16 bL bg p.puts),(LI s.regs),(dL 1 ao [] s.mems),(LI data)]),(.agg [(i6 e.op),(dS e.name),(i6 e.k.n),(dS e.k.p),(i6 e.w.n),(dS e.w.p),(dL 7 (eA n) dE e.args)])],false,(.tup [(i6 ((aL p s data e).1)),(i6 ((aL p s data e).2))])⟩
abbrev t5 (p : Pr) (s : Ps) (data : List Int) (n : Nat) (e : Ex) : Lp (Nat) := io [2,3,6,9,10,90,91,92] 4 (fun (i : Nat) => ⟨[(2,(.ptr 0 0 0 0)),(3,(.ptr 1 0 0 0)),(6,(i6 e.k.n)),(9,(.own 2)),(10,(.own 3)),(90,(dL 7 (eA (n + 1)) dE e.args)),(91,(i6 (e.args.length : Int))),(92,(i6 (i : Int)))],[(.var 113 [(dS p.name),(dS p.clock),(dL 13 bS aM p.regs),(dL 27 dW ax p.mems),(dL 9 bU aX p.takes),(dL 16 bL bg p.puts),(LI s.regs),(dL 1 ao [] s.mems),(LI data)]),(.var 60 [(i6 e.op),(dS e.name),(i6 e.k.n),(dS e.k.p),(i6 e.w.n),(dS e.w.p),(dL 7 (eA (n + 1)) dE e.args)]),(.arr 3 1 (ac .i64) 0 (cb p s data (e.args.take i))),(.arr 3 1 (ac .i64) 0 (b7 p s data (e.args.take i)))]⟩) (fun (i : Nat) => i ≤ e.args.length) (fun (i : Nat) => e.args.length - i)
theorem zW (p : Pr) (s : Ps) (data : List Int) (n : Nat) (e : Ex) (c : Sc) (v : Int) (ho : mm c p s data) (ht : dc c e = some v) (ih : ∀ a ∈ e.args,CC (zV p s data n a)) : CC (zV p s data (n + 1) e) := by
 have hal := rt ht
 refine ah.vc (V := TT 12 (CD (e.op = 16) (TT 4 (IX e.k.n s.regs.length∧TT 5 (IX e.k.n p.regs.length∧TT 6 (((s.regs.getD e.k.n.toNat 0) = ((aL p s data e).1)∧((p.regs.getD e.k.n.toNat aM).w) = ((aL p s data e).2)∧True)∧(True∧True∧True))))) (TT 2 (CD (e.op = 18) (TT 3 (IX e.k.n data.length∧TT 5 (IX e.k.n p.takes.length∧TT 6 (((data.getD e.k.n.toNat 0) = ((aL p s data e).1)∧((p.takes.getD e.k.n.toNat aX).w) = ((aL p s data e).2)∧True)∧(True∧True∧True))))) (TT 2 (CD (e.op = 17) (TT 3 (IX 0 e.args.length∧TT 1 (CC (zV p s data n (e.args.getD 0 dE))∧TT 9 (IX e.k.n s.mems.length∧TT 6 (IX e.k.n s.mems.length∧TT 2 ((((s.mems.getD e.k.n.toNat []).length : Nat) : Int) ≠ 0∧IX (Int.tmod ((aL p s data (e.args.getD 0 dE)).1) (((s.mems.getD e.k.n.toNat []).length : Nat) : Int)) ((s.mems.getD e.k.n.toNat []).length)∧TT 5 (IX e.k.n p.mems.length∧TT 6 ((((s.mems.getD e.k.n.toNat []).getD ((Int.tmod ((aL p s data (e.args.getD 0 dE)).1) (((s.mems.getD e.k.n.toNat []).length : Nat) : Int)).toNat) 0) = ((aL p s data e).1)∧((p.mems.getD e.k.n.toNat ax).w) = ((aL p s data e).2)∧True)∧(True∧True∧True))))))))) (TT 6 (GO (t5 p s data n e) 0 (∀ i,(t5 p s data n e).inv i → TT 1 (CD ((i : Int) < (e.args.length : Int)) (IX (i : Int) e.args.length∧TT 5 (CC (zV p s data n (e.args.getD i dE))∧TT 7 (au [[(i6 ((aL p s data (e.args.getD i dE)).1))]] ([(aL p s data (e.args.getD i dE)).1].map (ac .i64))∧((cb p s data (e.args.take i)).length + ([(aL p s data (e.args.getD i dE)).1].map (ac .i64)).length ≤ 137438953472∧(cb p s data (e.args.take i)).map (ac .i64) ++ [(aL p s data (e.args.getD i dE)).1].map (ac .i64) = (cb p s data (e.args.take (i + 1))).map (ac .i64))∧TT 2 (au [[(i6 ((aL p s data (e.args.getD i dE)).2))]] ([(aL p s data (e.args.getD i dE)).2].map (ac .i64))∧((b7 p s data (e.args.take i)).length + ([(aL p s data (e.args.getD i dE)).2].map (ac .i64)).length ≤ 137438953472∧(b7 p s data (e.args.take i)).map (ac .i64) ++ [(aL p s data (e.args.getD i dE)).2].map (ac .i64) = (b7 p s data (e.args.take (i + 1))).map (ac .i64))∧TT 2 (W6 ((i + 1 : Nat) : Int)∧TT 1 (AG (t5 p s data n e) i (i + 1))))))) (TT 11 ((0 ≤ (0 : Int)∧(0 : Int) ≤ (2 : Int)∧(2 : Int) ≤ (2 : Int))∧CK (DU e.op (b7 p s data (e.args.take i)) (cb p s data (e.args.take i)) [e.k.n,e.w.n])∧TT 9 (CK (DT e.op (b7 p s data (e.args.take i)) e.k.n e.w.n)∧TT 11 (((ca e.op (b7 p s data (e.args.take i)) (cb p s data (e.args.take i)) [e.k.n,e.w.n]) = ((aL p s data e).1)∧(bl e.op (b7 p s data (e.args.take i)) e.k.n e.w.n) = ((aL p s data e).2)∧True)∧(True∧True∧True))))))))))))))) (.b 25 (.e) (.b 40 (.e) (.b 54 (.w 8 [(5,(zV p s data n (e.args.getD 0 dE)).O)] <| .e) (.gs 11 9 3 1 (ac .i64) 0 <| .gs 11 10 3 1 (ac .i64) 0 <| .l (t5 p s data n e) 0 (fun i => .b 93 (.w 14 [(2,(zV p s data n (e.args.getD i dE)).O)] <| .w 15 [(2,.box 3 1 (ac .i64) 0 [(aL p s data (e.args.getD i dE)).1]),(3,.box 3 1 (ac .i64) 0 (cb p s data (e.args.take (i + 1)))),(6,.box 3 1 (ac .i64) 0 [(aL p s data (e.args.getD i dE)).2]),(7,.box 3 1 (ac .i64) 0 (b7 p s data (e.args.take (i + 1))))] <| .w 16 [(0,.val (i6 ((i + 1 : Nat) : Int)))] <| .e) (.f 18 4 <| .w 18 [(5,(DU e.op (b7 p s data (e.args.take i)) (cb p s data (e.args.take i)) [e.k.n,e.w.n]).O')] <| .w 19 [(4,(DT e.op (b7 p s data (e.args.take i)) e.k.n e.w.n).O')] <| .e)))))) Try.func46 rfl rfl rfl (by kernel_rfl) ?_
 refine tt (cd (fun hc25 => ?_) (fun hc25 => ?_))
 · obtain ⟨h1,h2,h3⟩ := wF ho ht hc25
   refine tt ⟨ix,tt ⟨ix,tt ⟨⟨?_,?_,oK⟩,⟨oK,oK,oK⟩⟩⟩⟩
   all_goals (first | exact (dY hc25).1.symm | exact (dY hc25).2.symm | exact (cH hc40).1.symm | exact (cH hc40).2.symm | exact (cI hc54 hlen).1.symm | exact (cI hc54 hlen).2.symm | (rw [hie,List.take_length]; exact (fN hc25 hc40 hc54).1.symm) | (rw [hie,List.take_length]; exact (fN hc25 hc40 hc54).2.symm))
 · refine tt (cd (fun hc40 => ?_) (fun hc40 => ?_))
   · obtain ⟨h1,h2,h3⟩ := t3 ho ht hc40
     refine tt ⟨ix,tt ⟨ix,tt ⟨⟨?_,?_,oK⟩,⟨oK,oK,oK⟩⟩⟩⟩
     all_goals (first | exact (dY hc25).1.symm | exact (dY hc25).2.symm | exact (cH hc40).1.symm | exact (cH hc40).2.symm | exact (cI hc54 hlen).1.symm | exact (cI hc54 hlen).2.symm | (rw [hie,List.take_length]; exact (fN hc25 hc40 hc54).1.symm) | (rw [hie,List.take_length]; exact (fN hc25 hc40 hc54).2.symm))
   · refine tt (cd (fun hc54 => ?_) (fun hc54 => ?_))
     · obtain ⟨h1,h2,h3,hlen,h4,h5,h6⟩ := t4 ho ht hc54
       refine tt ⟨ix,tt ⟨(ih _ (co (by omega))),tt ⟨ix,tt ⟨ix,tt ⟨om,⟨ix,tt ⟨ix,tt ⟨⟨?_,?_,oK⟩,⟨oK,oK,oK⟩⟩⟩⟩⟩⟩⟩⟩⟩
       all_goals (first | exact (dY hc25).1.symm | exact (dY hc25).2.symm | exact (cH hc40).1.symm | exact (cH hc40).2.symm | exact (cI hc54 hlen).1.symm | exact (cI hc54 hlen).2.symm | (rw [hie,List.take_length]; exact (fN hc25 hc40 hc54).1.symm) | (rw [hie,List.take_length]; exact (fN hc25 hc40 hc54).2.symm))
     · refine tt ⟨rfl,(by omega),?_⟩
       intro i hinv
       have hi := hinv
       refine tt (cd (fun hc93 => ?_) (fun hc93 => ?_))
       · refine ⟨ix,tt ⟨(ih _ (co (by omega))),tt ⟨⟨⟨rfl,oK⟩,oK⟩,⟨⟨by first | (simp [cb]; done) | (simp [cb]; omega),by rw [oY (by omega),List.map_append]⟩,tt ⟨⟨⟨rfl,oK⟩,oK⟩,⟨⟨by first | (simp [b7]; done) | (simp [b7]; omega),by rw [oZ (by omega),List.map_append]⟩,tt ⟨w6,tt ⟨(i + 1),rfl,(?_ : (i + 1) ≤ e.args.length),(?_ : e.args.length - (i + 1) < e.args.length - i)⟩⟩⟩⟩⟩⟩⟩⟩
         · omega
         · omega
       · have hie : i = e.args.length := by omega
         refine tt ⟨om,⟨⟨cG _ rfl,(vu e.op (b7 p s data (e.args.take i)) (cb p s data (e.args.take i)) [e.k.n,e.w.n] (by rw [gJ,List.length_take]; omega) (by rw [gI,List.length_take]; omega))⟩,tt ⟨⟨cG _ rfl,(vq e.op (b7 p s data (e.args.take i)) e.k.n e.w.n (by rw [gJ,List.length_take]; omega))⟩,tt ⟨⟨?_,?_,oK⟩,⟨oK,oK,oK⟩⟩⟩⟩⟩
         all_goals (first | exact (dY hc25).1.symm | exact (dY hc25).2.symm | exact (cH hc40).1.symm | exact (cH hc40).2.symm | exact (cI hc54 hlen).1.symm | exact (cI hc54 hlen).2.symm | (rw [hie,List.take_length]; exact (fN hc25 hc40 hc54).1.symm) | (rw [hie,List.take_length]; exact (fN hc25 hc40 hc54).2.symm))
theorem t6 {c : Sc} {p : Pr} {s : Ps} {data : List Int} (ho : mm c p s data) : ∀ (n : Nat) (e : Ex) (v : Int),dc c e = some v → cR e ≤ n + 1 → CC (zV p s data n e)
  | 0,e,v,ht,hd => by
    have ha : e.args = [] := by
      cases hl : e.args with
      | nil => rfl
      | cons a r =>
        have := d9 (e := e) (a := a) (by rw [hl]; simp)
        cases a with | mk op name k w args => rw [cR] at this; omega
    have h := zW p s data 0 e c v ho ht (fun a h => by rw [ha] at h; cases h)
    refine ah.recast ?_ h
    refine ⟨m4 _ rfl,⟨rfl,rfl,rfl,rfl,rfl,rfl,?_,oK⟩,oK⟩
    show e.args.map (eA 0) = e.args.map (eA 1)
    rw [ha]; rfl
  | n + 1,e,v,ht,hd => zW p s data n e c v ho ht (fun a h => by
    obtain ⟨w,hw⟩ := mo ht h
    exact t6 ho n a w hw (by have := d9 h; omega))
abbrev AK (p : Pr) (s : Ps) (data : List Int) (e : Ex) : Ct := ⟨25,[(.agg [(dS p.name),(dS p.clock),(dL 13 bS aM p.regs),(dL 27 dW ax p.mems),(dL 9 bU aX p.takes),(dL 16 bL bg p.puts)]),(.agg [(LI s.regs),(dL 1 ao [] s.mems)]),(LI data),(.agg [(i6 e.op),(dS e.name),(i6 e.k.n),(dS e.k.p),(i6 e.w.n),(dS e.w.p),(dL 7 (eA 2) dE e.args)])],false,(i6 ((aL p s data e).1))⟩
theorem qi (p : Pr) (s : Ps) (data : List Int) (e : Ex) (c : Sc) (v : Int) (ho : mm c p s data) (ht : dc c e = some v) (hd : cR e ≤ 3) : CC (AK p s data e) := by
 refine ah.vc (V := TT 9 (CC (zV p s data 2 e)∧TT 8 (((aL p s data e).1) = ((aL p s data e).1)∧True))) (.w 1 [(5,(zV p s data 2 e).O)] <| .e) Try.func25 rfl rfl rfl (by kernel_rfl) ?_
 exact tt ⟨(t6 ho 2 e _ ht hd),tt ⟨rfl,oK⟩⟩
end Go.Proofs.Ytgfbfajaaaegjaa
