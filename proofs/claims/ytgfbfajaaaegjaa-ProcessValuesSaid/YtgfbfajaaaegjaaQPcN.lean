/-
  Package elaborate: widths of expressions.
-/
import Derived.Test.YtgfbfajaaaegjaaQPcM
import Derived.Test.YtgfbfajaaaegjaaQPrA
namespace Go.Proofs.Ytgfbfajaaaegjaa
open Go.RowKit
set_option linter.unusedVariables false
set_option linter.unusedSimpArgs false
set_option maxRecDepth 100000
abbrev wX (n a b : Int) : Ct := ⟨51,[(i6 n),(i6 a),(i6 b)],false,(dB (decide (a ≤ n) && decide (n ≤ b)))⟩
theorem r8 (n a b : Int) : CC (wX n a b) := by
 refine ah.vc (V := TT 1 (CS (n ≥ a) (TT 3 ((True∧(decide (n ≥ a)) = true)∧TT 6 ((decide (n ≤ b)) = (decide (a ≤ n) && decide (n ≤ b))∧True))) (TT 3 ((True∧(decide (n ≥ a)) = false)∧TT 6 (false = (decide (a ≤ n) && decide (n ≤ b))∧True))))) (.s 1 (n ≥ a) (.w 1 [(3,.val (dB true))] <| .e) (.w 1 [(3,.val (dB false))] <| .e)) Try.func51 rfl rfl rfl (by kernel_rfl) ?_
 refine tt ⟨fun hs0 => ?_,fun hs0 => ?_⟩
 · refine tt ⟨(vT hs0),tt ⟨?_,oK⟩⟩
   first | (rw [decide_eq_true (show a ≤ n by omega)]; rfl) | (rw [decide_eq_false (show ¬a ≤ n by omega)]; rfl)
 · refine tt ⟨(vF hs0),tt ⟨?_,oK⟩⟩
   first | (rw [decide_eq_true (show a ≤ n by omega)]; rfl) | (rw [decide_eq_false (show ¬a ≤ n by omega)]; rfl)
abbrev EW (n : Nat) (e : Ex) : Ct := ⟨50,[(.agg [(i6 e.op),(dS e.name),(i6 e.k.n),(dS e.k.p),(i6 e.w.n),(dS e.w.p),(dL 7 (eA n) dE e.args)])],false,(dB true)⟩
theorem AJ (n : Nat) (e : Ex) (hf : BJ e) : CC (EW n e) := by
 have hk0 : e.k.p.size = 0 := by rw [hf.2.1]; rfl
 have hw0 : e.w.p.size = 0 := by rw [hf.2.2.1]; rfl
 refine ah.vc (V := TT 8 (CD (e.op = 1) ((decide (e.op = 1)) = true∧TT 5 ((True∧(e.name.toList == e0.toList) = true)∧TT 6 (((e.k.p.size + e.w.p.size : Nat) : Int) ≤ IntKind.i64.max∧TT 2 ((True∧((e.k.p ++ e.w.p).toList == e0.toList) = true)∧TT 19 (true = true∧True))))) (TT 2 (CD (e.op = 12) (TT 5 ((True∧(e.name.toList == e0.toList) = true)∧TT 6 (((e.k.p.size + e.w.p.size : Nat) : Int) ≤ IntKind.i64.max∧TT 2 ((True∧((e.k.p ++ e.w.p).toList == e0.toList) = true)∧TT 19 (true = true∧True))))) (TT 2 (CD (e.op = 13) (TT 4 ((True∧(e.name.toList == e0.toList) = true)∧TT 6 (((e.k.p.size + e.w.p.size : Nat) : Int) ≤ IntKind.i64.max∧TT 2 ((True∧((e.k.p ++ e.w.p).toList == e0.toList) = true)∧TT 8 ((True∧(decide (e.k.n = 0)) = true)∧TT 10 (true = true∧True)))))) (TT 2 (CD (e.op = 16) ((decide (e.op = 16)) = true∧TT 4 ((True∧(e.name.toList == e0.toList) = true)∧TT 6 (((e.k.p.size + e.w.p.size : Nat) : Int) ≤ IntKind.i64.max∧TT 2 ((True∧((e.k.p ++ e.w.p).toList == e0.toList) = true)∧TT 19 ((e.w.n == 0) = true∧True))))) (TT 2 (CD (e.op = 17) ((decide (e.op = 17)) = true∧TT 4 ((True∧(e.name.toList == e0.toList) = true)∧TT 6 (((e.k.p.size + e.w.p.size : Nat) : Int) ≤ IntKind.i64.max∧TT 2 ((True∧((e.k.p ++ e.w.p).toList == e0.toList) = true)∧TT 19 ((e.w.n == 0) = true∧True))))) (TT 2 (CD (e.op = 18) (TT 4 ((True∧(e.name.toList == e0.toList) = true)∧TT 6 (((e.k.p.size + e.w.p.size : Nat) : Int) ≤ IntKind.i64.max∧TT 2 ((True∧((e.k.p ++ e.w.p).toList == e0.toList) = true)∧TT 19 ((e.w.n == 0) = true∧True))))) (TT 3 ((True∧(e.name.toList == e0.toList) = true)∧TT 6 (((e.k.p.size + e.w.p.size : Nat) : Int) ≤ IntKind.i64.max∧TT 2 ((True∧((e.k.p ++ e.w.p).toList == e0.toList) = true)∧TT 8 ((True∧(decide (e.k.n = 0)) = true)∧TT 10 ((e.w.n == 0) = true∧True)))))))))))))))))) (.b 7 (.t 7 (.w 12 [(3,.val (dB true)),(13,.val (dB true))] <| .e)) (.b 7 (.w 12 [(3,.val (dB true)),(13,.val (dB true))] <| .e) (.b 10 (.w 12 [(3,.val (dB true)),(13,.val (dB true)),(22,.val (dB true))] <| .e) (.b 12 (.t 12 (.w 12 [(3,.val (dB true)),(13,.val (dB true))] <| .e)) (.b 12 (.t 12 (.w 12 [(3,.val (dB true)),(13,.val (dB true))] <| .e)) (.b 12 (.w 12 [(3,.val (dB true)),(13,.val (dB true))] <| .e) (.w 12 [(3,.val (dB true)),(13,.val (dB true)),(22,.val (dB true))] <| .e))))))) Try.func50 rfl rfl rfl (by kernel_rfl) ?_
 refine tt (cd (fun hc7 => ?_) (fun hc7 => ?_))
 · exact ⟨(decide_eq_true hc7),tt ⟨(bT (by obtain ⟨f1,f2,f3,f4,f5⟩ := hf; first | omega | (simp only [f1,f2,f3]; decide) | simp_all | omega)),tt ⟨om,tt ⟨(bT (by obtain ⟨f1,f2,f3,f4,f5⟩ := hf; first | omega | (simp only [f1,f2,f3]; decide) | simp_all | omega)),tt ⟨rfl,oK⟩⟩⟩⟩⟩
 · refine tt (cd (fun hc7 => ?_) (fun hc7 => ?_))
   · exact tt ⟨(bT (by obtain ⟨f1,f2,f3,f4,f5⟩ := hf; first | omega | (simp only [f1,f2,f3]; decide) | simp_all | omega)),tt ⟨om,tt ⟨(bT (by obtain ⟨f1,f2,f3,f4,f5⟩ := hf; first | omega | (simp only [f1,f2,f3]; decide) | simp_all | omega)),tt ⟨rfl,oK⟩⟩⟩⟩
   · refine tt (cd (fun hc10 => ?_) (fun hc10 => ?_))
     · exact tt ⟨(bT (by obtain ⟨f1,f2,f3,f4,f5⟩ := hf; first | omega | (simp only [f1,f2,f3]; decide) | simp_all | omega)),tt ⟨om,tt ⟨(bT (by obtain ⟨f1,f2,f3,f4,f5⟩ := hf; first | omega | (simp only [f1,f2,f3]; decide) | simp_all | omega)),tt ⟨(vT (by obtain ⟨f1,f2,f3,f4,f5⟩ := hf; first | omega | (simp only [f1,f2,f3]; decide) | simp_all | omega)),tt ⟨rfl,oK⟩⟩⟩⟩⟩
     · refine tt (cd (fun hc12 => ?_) (fun hc12 => ?_))
       · refine ⟨(decide_eq_true hc12),tt ⟨(bT (by obtain ⟨f1,f2,f3,f4,f5⟩ := hf; first | omega | (simp only [f1,f2,f3]; decide) | simp_all | omega)),tt ⟨om,tt ⟨(bT (by obtain ⟨f1,f2,f3,f4,f5⟩ := hf; first | omega | (simp only [f1,f2,f3]; decide) | simp_all | omega)),tt ⟨?_,oK⟩⟩⟩⟩⟩
         all_goals (obtain ⟨f1,f2,f3,f4,f5⟩ := hf; first | rfl | omega | (simp only [decide_eq_true_eq]; omega) | simp_all)
       · refine tt (cd (fun hc12 => ?_) (fun hc12 => ?_))
         · refine ⟨(decide_eq_true hc12),tt ⟨(bT (by obtain ⟨f1,f2,f3,f4,f5⟩ := hf; first | omega | (simp only [f1,f2,f3]; decide) | simp_all | omega)),tt ⟨om,tt ⟨(bT (by obtain ⟨f1,f2,f3,f4,f5⟩ := hf; first | omega | (simp only [f1,f2,f3]; decide) | simp_all | omega)),tt ⟨?_,oK⟩⟩⟩⟩⟩
           all_goals (obtain ⟨f1,f2,f3,f4,f5⟩ := hf; first | rfl | omega | (simp only [decide_eq_true_eq]; omega) | simp_all)
         · refine tt (cd (fun hc12 => ?_) (fun hc12 => ?_))
           · refine tt ⟨(bT (by obtain ⟨f1,f2,f3,f4,f5⟩ := hf; first | omega | (simp only [f1,f2,f3]; decide) | simp_all | omega)),tt ⟨om,tt ⟨(bT (by obtain ⟨f1,f2,f3,f4,f5⟩ := hf; first | omega | (simp only [f1,f2,f3]; decide) | simp_all | omega)),tt ⟨?_,oK⟩⟩⟩⟩
             all_goals (obtain ⟨f1,f2,f3,f4,f5⟩ := hf; first | rfl | omega | (simp only [decide_eq_true_eq]; omega) | simp_all)
           · refine tt ⟨(bT (by obtain ⟨f1,f2,f3,f4,f5⟩ := hf; first | omega | (simp only [f1,f2,f3]; decide) | simp_all | omega)),tt ⟨om,tt ⟨(bT (by obtain ⟨f1,f2,f3,f4,f5⟩ := hf; first | omega | (simp only [f1,f2,f3]; decide) | simp_all | omega)),tt ⟨(vT (by obtain ⟨f1,f2,f3,f4,f5⟩ := hf; first | omega | (simp only [f1,f2,f3]; decide) | simp_all | omega)),tt ⟨?_,oK⟩⟩⟩⟩⟩
             all_goals (obtain ⟨f1,f2,f3,f4,f5⟩ := hf; first | rfl | omega | (simp only [decide_eq_true_eq]; omega) | simp_all)
abbrev BO (p : Pr) (n : Nat) (e : Ex) : Ct := ⟨30,[(.agg [(dS p.name),(dS p.clock),(dL 13 bS aM p.regs),(dL 27 dW ax p.mems),(dL 9 bU aX p.takes),(dL 16 bL bg p.puts)]),(.agg [(i6 e.op),(dS e.name),(i6 e.k.n),(dS e.k.p),(i6 e.w.n),(dS e.w.p),(dL 7 (eA n) dE e.args)])],false,(.tup [(i6 (i3 p e)),(i6 0)])⟩
abbrev qv (p : Pr) (n : Nat) (e : Ex) : Lp (Nat) := io [2,3,6,17,18,19] 3 (fun (i : Nat) => ⟨[(2,(.ptr 0 0 0 0)),(3,(.ptr 1 0 0 0)),(6,(.own 2)),(17,(dL 7 (eA (n + 1)) dE e.args)),(18,(i6 (e.args.length : Int))),(19,(i6 (i : Int)))],[(.var 37 [(dS p.name),(dS p.clock),(dL 13 bS aM p.regs),(dL 27 dW ax p.mems),(dL 9 bU aX p.takes),(dL 16 bL bg p.puts)]),(.var 60 [(i6 e.op),(dS e.name),(i6 e.k.n),(dS e.k.p),(i6 e.w.n),(dS e.w.p),(dL 7 (eA (n + 1)) dE e.args)]),(.arr 3 1 (ac .i64) 0 (pS p (e.args.take i)))]⟩) (fun (i : Nat) => i ≤ e.args.length) (fun (i : Nat) => e.args.length - i)
theorem yq (p : Pr) (n : Nat) (e : Ex) {v : Int} (hp : cZ p) (ht : dc (f8 p) e = some v) (hf : i2 e) (ih : ∀ a ∈ e.args,CC (BO p n a)) : CC (BO p (n + 1) e) := by
 have hal := rt ht
 have hwi := Ef hp ht
 have hf0 := hf.here
 have hl1 := hp.rl
 have hl2 := hp.ml
 have hl3 := hp.tl
 refine ah.vc (V := TT 5 (CC (EW (n + 1) e)∧TT 6 (GO (qv p n e) 0 (∀ i,(qv p n e).inv i → TT 1 (CD ((i : Int) < (e.args.length : Int)) (IX (i : Int) e.args.length∧TT 5 (CC (BO p n (e.args.getD i dE))∧TT 9 (au [[(i6 (i3 p (e.args.getD i dE)))]] ([i3 p (e.args.getD i dE)].map (ac .i64))∧((pS p (e.args.take i)).length + ([i3 p (e.args.getD i dE)].map (ac .i64)).length ≤ 137438953472∧(pS p (e.args.take i)).map (ac .i64) ++ [i3 p (e.args.getD i dE)].map (ac .i64) = (pS p (e.args.take (i + 1))).map (ac .i64))∧TT 1 (W6 ((i + 1 : Nat) : Int)∧TT 1 (AG (qv p n e) i (i + 1)))))) (TT 5 (CS (e.op = 16) (TT 3 ((True∧(decide (e.op = 16)) = true)∧TT 4 ((True∧(decide ((((pS p (e.args.take i)).length : Nat) : Int) = 0)) = true)∧TT 4 (W6 ((p.regs.length : Int) - 1)∧CC (wX e.k.n 0 ((p.regs.length : Int) - 1))∧TT 2 ((decide (0 ≤ e.k.n) && decide (e.k.n ≤ ((p.regs.length : Int) - 1))) = true∧TT 3 (IX e.k.n p.regs.length∧TT 4 (CC (wX ((p.regs.getD e.k.n.toNat aM).w) 1 8)∧TT 1 ((!(decide (1 ≤ ((p.regs.getD e.k.n.toNat aM).w)) && decide (((p.regs.getD e.k.n.toNat aM).w) ≤ 8))) = false∧TT 5 ((((p.regs.getD e.k.n.toNat aM).w) = (i3 p e)∧(0 : Int) = 0∧True)∧(True∧True∧True)))))))))) (TT 3 ((True∧(decide (e.op = 16)) = false)∧TT 13 (CS (e.op = 18) (TT 3 ((True∧(decide (e.op = 18)) = true)∧TT 4 ((True∧(decide ((((pS p (e.args.take i)).length : Nat) : Int) = 0)) = true)∧TT 4 (W6 ((p.takes.length : Int) - 1)∧CC (wX e.k.n 0 ((p.takes.length : Int) - 1))∧TT 2 ((decide (0 ≤ e.k.n) && decide (e.k.n ≤ ((p.takes.length : Int) - 1))) = true∧TT 3 (IX e.k.n p.takes.length∧TT 4 (CC (wX ((p.takes.getD e.k.n.toNat aX).w) 1 8)∧TT 1 ((!(decide (1 ≤ ((p.takes.getD e.k.n.toNat aX).w)) && decide (((p.takes.getD e.k.n.toNat aX).w) ≤ 8))) = false∧TT 5 ((((p.takes.getD e.k.n.toNat aX).w) = (i3 p e)∧(0 : Int) = 0∧True)∧(True∧True∧True)))))))))) (TT 3 ((True∧(decide (e.op = 18)) = false)∧TT 13 (CS (e.op = 17) (TT 3 ((True∧(decide (e.op = 17)) = true)∧TT 4 ((True∧(decide ((((pS p (e.args.take i)).length : Nat) : Int) = 1)) = true)∧TT 4 (W6 ((p.mems.length : Int) - 1)∧CC (wX e.k.n 0 ((p.mems.length : Int) - 1))∧TT 2 ((decide (0 ≤ e.k.n) && decide (e.k.n ≤ ((p.mems.length : Int) - 1))) = true∧TT 3 (IX e.k.n p.mems.length∧TT 4 (CC (wX ((p.mems.getD e.k.n.toNat ax).w) 1 8)∧TT 1 ((!(decide (1 ≤ ((p.mems.getD e.k.n.toNat ax).w)) && decide (((p.mems.getD e.k.n.toNat ax).w) ≤ 8))) = false∧TT 5 ((((p.mems.getD e.k.n.toNat ax).w) = (i3 p e)∧(0 : Int) = 0∧True)∧(True∧True∧True)))))))))) (TT 3 ((True∧(decide (e.op = 17)) = false)∧TT 21 (CK (DT e.op (pS p (e.args.take i)) e.k.n e.w.n)∧TT 5 (CC (wX (bl e.op (pS p (e.args.take i)) e.k.n e.w.n) 1 8)∧TT 1 ((!(decide (1 ≤ (bl e.op (pS p (e.args.take i)) e.k.n e.w.n)) && decide ((bl e.op (pS p (e.args.take i)) e.k.n e.w.n) ≤ 8))) = false∧TT 5 (((bl e.op (pS p (e.args.take i)) e.k.n e.w.n) = (i3 p e)∧(0 : Int) = 0∧True)∧(True∧True∧True)))))))))))))))))))) (.w 1 [(1,(EW (n + 1) e).O)] <| .gs 4 6 3 1 (ac .i64) 0 <| .l (qv p n e) 0 (fun i => .b 20 (.w 7 [(2,(BO p n (e.args.getD i dE)).O)] <| .w 10 [(2,.box 3 1 (ac .i64) 0 [i3 p (e.args.getD i dE)]),(3,.box 3 1 (ac .i64) 0 (pS p (e.args.take (i + 1))))] <| .w 11 [(0,.val (i6 ((i + 1 : Nat) : Int)))] <| .e) (.s 14 (e.op = 16) (.w 14 [(3,.val (dB true)),(8,.val (dB true)),(13,.val (i6 ((p.regs.length : Int) - 1))),(14,(wX e.k.n 0 ((p.regs.length : Int) - 1)).O)] <| .t 52 (.w 20 [(1,(wX ((p.regs.getD e.k.n.toNat aM).w) 1 8).O)] <| .u 123 (.e))) (.w 14 [(3,.val (dB false))] <| .s 16 (e.op = 18) (.w 16 [(3,.val (dB true)),(8,.val (dB true)),(13,.val (i6 ((p.takes.length : Int) - 1))),(14,(wX e.k.n 0 ((p.takes.length : Int) - 1)).O)] <| .t 75 (.w 20 [(1,(wX ((p.takes.getD e.k.n.toNat aX).w) 1 8).O)] <| .u 123 (.e))) (.w 16 [(3,.val (dB false))] <| .s 18 (e.op = 17) (.w 18 [(3,.val (dB true)),(8,.val (dB true)),(13,.val (i6 ((p.mems.length : Int) - 1))),(14,(wX e.k.n 0 ((p.mems.length : Int) - 1)).O)] <| .t 98 (.w 20 [(1,(wX ((p.mems.getD e.k.n.toNat ax).w) 1 8).O)] <| .u 123 (.e))) (.w 18 [(3,.val (dB false))] <| .w 13 [(8,(DT e.op (pS p (e.args.take i)) e.k.n e.w.n).O')] <| .w 20 [(1,(wX (bl e.op (pS p (e.args.take i)) e.k.n e.w.n) 1 8).O)] <| .u 123 (.e))))))) Try.func30 rfl rfl rfl (by kernel_rfl) ?_
 refine tt ⟨(AJ (n + 1) e (by assumption)),tt ⟨rfl,(by omega),?_⟩⟩
 intro i hinv
 have hi := hinv
 refine tt (cd (fun hc20 => ?_) (fun hc20 => ?_))
 · refine ⟨ix,tt ⟨(ih _ (co (by omega))),tt ⟨⟨⟨rfl,oK⟩,oK⟩,⟨⟨by simp only [List.length_map,List.length_cons,List.length_nil]; rw [uE,List.length_take]; omega,by rw [AI (by omega),List.map_append]⟩,tt ⟨w6,tt ⟨(i + 1),rfl,(?_ : (i + 1) ≤ e.args.length),(?_ : e.args.length - (i + 1) < e.args.length - i)⟩⟩⟩⟩⟩⟩
   · omega
   · omega
 · have hie : i = e.args.length := by omega
   have hwl : (pS p (e.args.take i)).length = e.args.length := by rw [uE,hie,List.take_length]
   refine tt ⟨fun hs0 => ?_,fun hs0 => ?_⟩
   · obtain ⟨w1,w2,w3,w4⟩ := Da ht (by assumption)
     refine tt ⟨(vT hs0),tt ⟨(vT (by first | omega | (simp; omega) | simp_all | (simp_all; omega))),tt ⟨w6,⟨(r8 e.k.n 0 ((p.regs.length : Int) - 1)),tt ⟨(Em (by first | omega | (simp; omega) | simp_all | (simp_all; omega))),tt ⟨ix,tt ⟨(r8 ((p.regs.getD e.k.n.toNat aM).w) 1 8),tt ⟨(rh (by first | (rw [w4]; simp; omega) | (rw [hie,List.take_length,pT ht (by assumption) (by assumption) (by assumption)]; simp; omega))),tt ⟨⟨?_,rfl,oK⟩,⟨oK,oK,oK⟩⟩⟩⟩⟩⟩⟩⟩⟩⟩
     first | rfl | exact w4 | (rw [hie,List.take_length]; exact pT ht (by assumption) (by assumption) (by assumption))
   · refine tt ⟨(vF hs0),tt ⟨fun hs1 => ?_,fun hs1 => ?_⟩⟩
     · obtain ⟨w1,w2,w3,w4⟩ := BM ht (by assumption)
       refine tt ⟨(vT hs1),tt ⟨(vT (by first | omega | (simp; omega) | simp_all | (simp_all; omega))),tt ⟨w6,⟨(r8 e.k.n 0 ((p.takes.length : Int) - 1)),tt ⟨(Em (by first | omega | (simp; omega) | simp_all | (simp_all; omega))),tt ⟨ix,tt ⟨(r8 ((p.takes.getD e.k.n.toNat aX).w) 1 8),tt ⟨(rh (by first | (rw [w4]; simp; omega) | (rw [hie,List.take_length,pT ht (by assumption) (by assumption) (by assumption)]; simp; omega))),tt ⟨⟨?_,rfl,oK⟩,⟨oK,oK,oK⟩⟩⟩⟩⟩⟩⟩⟩⟩⟩
       first | rfl | exact w4 | (rw [hie,List.take_length]; exact pT ht (by assumption) (by assumption) (by assumption))
     · refine tt ⟨(vF hs1),tt ⟨fun hs2 => ?_,fun hs2 => ?_⟩⟩
       · obtain ⟨w1,w2,w3,w4⟩ := BN ht (by assumption)
         refine tt ⟨(vT hs2),tt ⟨(vT (by first | omega | (simp; omega) | simp_all | (simp_all; omega))),tt ⟨w6,⟨(r8 e.k.n 0 ((p.mems.length : Int) - 1)),tt ⟨(Em (by first | omega | (simp; omega) | simp_all | (simp_all; omega))),tt ⟨ix,tt ⟨(r8 ((p.mems.getD e.k.n.toNat ax).w) 1 8),tt ⟨(rh (by first | (rw [w4]; simp; omega) | (rw [hie,List.take_length,pT ht (by assumption) (by assumption) (by assumption)]; simp; omega))),tt ⟨⟨?_,rfl,oK⟩,⟨oK,oK,oK⟩⟩⟩⟩⟩⟩⟩⟩⟩⟩
         first | rfl | exact w4 | (rw [hie,List.take_length]; exact pT ht (by assumption) (by assumption) (by assumption))
       · refine tt ⟨(vF hs2),tt ⟨⟨cG _ rfl,(vq e.op (pS p (e.args.take i)) e.k.n e.w.n (by rw [hwl]; omega))⟩,tt ⟨(r8 (bl e.op (pS p (e.args.take i)) e.k.n e.w.n) 1 8),tt ⟨(rh (by first | (rw [w4]; simp; omega) | (rw [hie,List.take_length,pT ht (by assumption) (by assumption) (by assumption)]; simp; omega))),tt ⟨⟨?_,rfl,oK⟩,⟨oK,oK,oK⟩⟩⟩⟩⟩⟩
         first | rfl | exact w4 | (rw [hie,List.take_length]; exact pT ht (by assumption) (by assumption) (by assumption))
theorem r9 {p : Pr} (hp : cZ p) : ∀ (n : Nat) (e : Ex) (v : Int),dc (f8 p) e = some v → i2 e → cR e ≤ n + 1 → CC (BO p n e)
  | 0,e,v,ht,hf,hd => by
    have ha : e.args = [] := by
      cases hl : e.args with
      | nil => rfl
      | cons a r =>
        have := d9 (e := e) (a := a) (by rw [hl]; simp)
        have := qr a
        omega
    have h := yq p 0 e hp ht hf (fun a h => by rw [ha] at h; cases h)
    refine ah.recast ?_ h
    refine ⟨m4 _ rfl,⟨rfl,rfl,rfl,rfl,rfl,rfl,?_,oK⟩,oK⟩
    show e.args.map (eA 0) = e.args.map (eA 1)
    rw [ha]; rfl
  | n + 1,e,v,ht,hf,hd => yq p n e hp ht hf (fun a h => by
    obtain ⟨w,hw⟩ := mo ht h
    exact r9 hp n a w hw (hf.arg h) (by have := d9 h; omega))
end Go.Proofs.Ytgfbfajaaaegjaa
