/-
  Package elaborate: widths of expressions.
-/
import Derived.Test.YtgfbfajaaaegjaaQPcM
import Derived.Test.YtgfbfajaaaegjaaQPrA
namespace Go.Proofs.Ytgfbfajaaaegjaa
open Go.RowKit
set_option linter.unusedVariables false
set_option linter.unusedSimpArgs false
set_option maxRecDepth 100000
abbrev lP (n a b : Int) : Ct := ⟨51,[(i6 n),(i6 a),(i6 b)],false,(dB (decide (a ≤ n) && decide (n ≤ b)))⟩
theorem gg (n a b : Int) : CC (lP n a b) := by
 refine ak.vc (V := TT 1 (CS (n ≥ a) (TT 3 ((True∧(decide (n ≥ a)) = true)∧TT 6 ((decide (n ≤ b)) = (decide (a ≤ n) && decide (n ≤ b))∧True))) (TT 3 ((True∧(decide (n ≥ a)) = false)∧TT 6 (false = (decide (a ≤ n) && decide (n ≤ b))∧True))))) (.s 1 (n ≥ a) (.w 1 [(3,.val (dB true))] <| .e) (.w 1 [(3,.val (dB false))] <| .e)) Try.func51 rfl rfl rfl (by kernel_rfl) ?_
 refine tt ⟨fun hs0 => ?_,fun hs0 => ?_⟩
 · refine tt ⟨(vT hs0),tt ⟨?_,oK⟩⟩
   first | (rw [decide_eq_true (show a ≤ n by omega)]; rfl) | (rw [decide_eq_false (show ¬a ≤ n by omega)]; rfl)
 · refine tt ⟨(vF hs0),tt ⟨?_,oK⟩⟩
   first | (rw [decide_eq_true (show a ≤ n by omega)]; rfl) | (rw [decide_eq_false (show ¬a ≤ n by omega)]; rfl)
abbrev DE (n : Nat) (e : Ex) : Ct := ⟨50,[(.agg [(i6 e.op),(dS e.name),(i6 e.k.n),(dS e.k.p),(i6 e.w.n),(dS e.w.p),(dL 7 (eA n) dE e.args)])],false,(dB true)⟩
theorem zp (n : Nat) (e : Ex) (hf : Ap e) : CC (DE n e) := by
 have hk0 : e.k.p.size = 0 := by rw [hf.2.1]; rfl
 have hw0 : e.w.p.size = 0 := by rw [hf.2.2.1]; rfl
 refine ak.vc (V := TT 8 (CD (e.op = 1) ((decide (e.op = 1)) = true∧TT 5 ((True∧(e.name.toList == e0.toList) = true)∧TT 6 (((e.k.p.size + e.w.p.size : Nat) : Int) ≤ IntKind.i64.max∧TT 2 ((True∧((e.k.p ++ e.w.p).toList == e0.toList) = true)∧TT 19 (true = true∧True))))) (TT 2 (CD (e.op = 12) (TT 5 ((True∧(e.name.toList == e0.toList) = true)∧TT 6 (((e.k.p.size + e.w.p.size : Nat) : Int) ≤ IntKind.i64.max∧TT 2 ((True∧((e.k.p ++ e.w.p).toList == e0.toList) = true)∧TT 19 (true = true∧True))))) (TT 2 (CD (e.op = 13) (TT 4 ((True∧(e.name.toList == e0.toList) = true)∧TT 6 (((e.k.p.size + e.w.p.size : Nat) : Int) ≤ IntKind.i64.max∧TT 2 ((True∧((e.k.p ++ e.w.p).toList == e0.toList) = true)∧TT 8 ((True∧(decide (e.k.n = 0)) = true)∧TT 10 (true = true∧True)))))) (TT 2 (CD (e.op = 16) ((decide (e.op = 16)) = true∧TT 4 ((True∧(e.name.toList == e0.toList) = true)∧TT 6 (((e.k.p.size + e.w.p.size : Nat) : Int) ≤ IntKind.i64.max∧TT 2 ((True∧((e.k.p ++ e.w.p).toList == e0.toList) = true)∧TT 19 ((e.w.n == 0) = true∧True))))) (TT 2 (CD (e.op = 17) ((decide (e.op = 17)) = true∧TT 4 ((True∧(e.name.toList == e0.toList) = true)∧TT 6 (((e.k.p.size + e.w.p.size : Nat) : Int) ≤ IntKind.i64.max∧TT 2 ((True∧((e.k.p ++ e.w.p).toList == e0.toList) = true)∧TT 19 ((e.w.n == 0) = true∧True))))) (TT 2 (CD (e.op = 18) (TT 4 ((True∧(e.name.toList == e0.toList) = true)∧TT 6 (((e.k.p.size + e.w.p.size : Nat) : Int) ≤ IntKind.i64.max∧TT 2 ((True∧((e.k.p ++ e.w.p).toList == e0.toList) = true)∧TT 19 ((e.w.n == 0) = true∧True))))) (TT 3 ((True∧(e.name.toList == e0.toList) = true)∧TT 6 (((e.k.p.size + e.w.p.size : Nat) : Int) ≤ IntKind.i64.max∧TT 2 ((True∧((e.k.p ++ e.w.p).toList == e0.toList) = true)∧TT 8 ((True∧(decide (e.k.n = 0)) = true)∧TT 10 ((e.w.n == 0) = true∧True)))))))))))))))))) (.b 7 (.t 7 (.w 12 [(3,.val (dB true)),(13,.val (dB true))] <| .e)) (.b 7 (.w 12 [(3,.val (dB true)),(13,.val (dB true))] <| .e) (.b 10 (.w 12 [(3,.val (dB true)),(13,.val (dB true)),(22,.val (dB true))] <| .e) (.b 12 (.t 12 (.w 12 [(3,.val (dB true)),(13,.val (dB true))] <| .e)) (.b 12 (.t 12 (.w 12 [(3,.val (dB true)),(13,.val (dB true))] <| .e)) (.b 12 (.w 12 [(3,.val (dB true)),(13,.val (dB true))] <| .e) (.w 12 [(3,.val (dB true)),(13,.val (dB true)),(22,.val (dB true))] <| .e))))))) Try.func50 rfl rfl rfl (by kernel_rfl) ?_
 refine tt (cd (fun hc7 => ?_) (fun hc7 => ?_))
 · exact ⟨(decide_eq_true hc7),tt ⟨(bT (by obtain ⟨f1,f2,f3,f4,f5⟩ := hf; first | omega | (simp only [f1,f2,f3]; decide) | simp_all | omega)),tt ⟨om,tt ⟨(bT (by obtain ⟨f1,f2,f3,f4,f5⟩ := hf; first | omega | (simp only [f1,f2,f3]; decide) | simp_all | omega)),tt ⟨rfl,oK⟩⟩⟩⟩⟩
 · refine tt (cd (fun hc7 => ?_) (fun hc7 => ?_))
   · exact tt ⟨(bT (by obtain ⟨f1,f2,f3,f4,f5⟩ := hf; first | omega | (simp only [f1,f2,f3]; decide) | simp_all | omega)),tt ⟨om,tt ⟨(bT (by obtain ⟨f1,f2,f3,f4,f5⟩ := hf; first | omega | (simp only [f1,f2,f3]; decide) | simp_all | omega)),tt ⟨rfl,oK⟩⟩⟩⟩
   · refine tt (cd (fun hc10 => ?_) (fun hc10 => ?_))
     · exact tt ⟨(bT (by obtain ⟨f1,f2,f3,f4,f5⟩ := hf; first | omega | (simp only [f1,f2,f3]; decide) | simp_all | omega)),tt ⟨om,tt ⟨(bT (by obtain ⟨f1,f2,f3,f4,f5⟩ := hf; first | omega | (simp only [f1,f2,f3]; decide) | simp_all | omega)),tt ⟨(vT (by obtain ⟨f1,f2,f3,f4,f5⟩ := hf; first | omega | (simp only [f1,f2,f3]; decide) | simp_all | omega)),tt ⟨rfl,oK⟩⟩⟩⟩⟩
     · refine tt (cd (fun hc12 => ?_) (fun hc12 => ?_))
       · refine ⟨(decide_eq_true hc12),tt ⟨(bT (by obtain ⟨f1,f2,f3,f4,f5⟩ := hf; first | omega | (simp only [f1,f2,f3]; decide) | simp_all | omega)),tt ⟨om,tt ⟨(bT (by obtain ⟨f1,f2,f3,f4,f5⟩ := hf; first | omega | (simp only [f1,f2,f3]; decide) | simp_all | omega)),tt ⟨?_,oK⟩⟩⟩⟩⟩
         all_goals (obtain ⟨f1,f2,f3,f4,f5⟩ := hf; first | rfl | omega | (simp only [decide_eq_true_eq]; omega) | simp_all)
       · refine tt (cd (fun hc12 => ?_) (fun hc12 => ?_))
         · refine ⟨(decide_eq_true hc12),tt ⟨(bT (by obtain ⟨f1,f2,f3,f4,f5⟩ := hf; first | omega | (simp only [f1,f2,f3]; decide) | simp_all | omega)),tt ⟨om,tt ⟨(bT (by obtain ⟨f1,f2,f3,f4,f5⟩ := hf; first | omega | (simp only [f1,f2,f3]; decide) | simp_all | omega)),tt ⟨?_,oK⟩⟩⟩⟩⟩
           all_goals (obtain ⟨f1,f2,f3,f4,f5⟩ := hf; first | rfl | omega | (simp only [decide_eq_true_eq]; omega) | simp_all)
         · refine tt (cd (fun hc12 => ?_) (fun hc12 => ?_))
           · refine tt ⟨(bT (by obtain ⟨f1,f2,f3,f4,f5⟩ := hf; first | omega | (simp only [f1,f2,f3]; decide) | simp_all | omega)),tt ⟨om,tt ⟨(bT (by obtain ⟨f1,f2,f3,f4,f5⟩ := hf; first | omega | (simp only [f1,f2,f3]; decide) | simp_all | omega)),tt ⟨?_,oK⟩⟩⟩⟩
             all_goals (obtain ⟨f1,f2,f3,f4,f5⟩ := hf; first | rfl | omega | (simp only [decide_eq_true_eq]; omega) | simp_all)
           · refine tt ⟨(bT (by obtain ⟨f1,f2,f3,f4,f5⟩ := hf; first | omega | (simp only [f1,f2,f3]; decide) | simp_all | omega)),tt ⟨om,tt ⟨(bT (by obtain ⟨f1,f2,f3,f4,f5⟩ := hf; first | omega | (simp only [f1,f2,f3]; decide) | simp_all | omega)),tt ⟨(vT (by obtain ⟨f1,f2,f3,f4,f5⟩ := hf; first | omega | (simp only [f1,f2,f3]; decide) | simp_all | omega)),tt ⟨?_,oK⟩⟩⟩⟩⟩
             all_goals (obtain ⟨f1,f2,f3,f4,f5⟩ := hf; first | rfl | omega | (simp only [decide_eq_true_eq]; omega) | simp_all)
abbrev AC (p : Pr) (n : Nat) (e : Ex) : Ct := ⟨30,[(.agg [(dS p.name),(dS p.clock),(dL 13 bU aA p.regs),(dL 27 dG ai p.mems),(dL 9 bV aJ p.takes),(dL 16 bN ay p.puts)]),(.agg [(i6 e.op),(dS e.name),(i6 e.k.n),(dS e.k.p),(i6 e.w.n),(dS e.w.p),(dL 7 (eA n) dE e.args)])],false,(.tup [(i6 (kn p e)),(i6 0)])⟩
abbrev pR (p : Pr) (n : Nat) (e : Ex) : Lp (Nat) := lm [2,3,6,17,18,19] 3 (fun (i : Nat) => ⟨[(2,(.ptr 0 0 0 0)),(3,(.ptr 1 0 0 0)),(6,(.own 2)),(17,(dL 7 (eA (n + 1)) dE e.args)),(18,(i6 (e.args.length : Int))),(19,(i6 (i : Int)))],[(.var 37 [(dS p.name),(dS p.clock),(dL 13 bU aA p.regs),(dL 27 dG ai p.mems),(dL 9 bV aJ p.takes),(dL 16 bN ay p.puts)]),(.var 60 [(i6 e.op),(dS e.name),(i6 e.k.n),(dS e.k.p),(i6 e.w.n),(dS e.w.p),(dL 7 (eA (n + 1)) dE e.args)]),(.arr 3 1 (ac .i64) 0 (o6 p (e.args.take i)))]⟩) (fun (i : Nat) => i ≤ e.args.length) (fun (i : Nat) => e.args.length - i)
theorem w9 (p : Pr) (n : Nat) (e : Ex) {v : Int} (hp : dA p) (ht : cz (ee p) e = some v) (hf : eh e) (ih : ∀ a ∈ e.args,CC (AC p n a)) : CC (AC p (n + 1) e) := by
 have hal := vQ ht
 have hwi := CW hp ht
 have hf0 := hf.here
 have hl1 := hp.rl
 have hl2 := hp.ml
 have hl3 := hp.tl
 refine ak.vc (V := TT 5 (CC (DE (n + 1) e)∧TT 6 (GO (pR p n e) 0 (∀ i,(pR p n e).inv i → TT 1 (CD ((i : Int) < (e.args.length : Int)) (IX (i : Int) e.args.length∧TT 5 (CC (AC p n (e.args.getD i dE))∧TT 9 (az [[(i6 (kn p (e.args.getD i dE)))]] ([kn p (e.args.getD i dE)].map (ac .i64))∧((o6 p (e.args.take i)).length + ([kn p (e.args.getD i dE)].map (ac .i64)).length ≤ 137438953472∧(o6 p (e.args.take i)).map (ac .i64) ++ [kn p (e.args.getD i dE)].map (ac .i64) = (o6 p (e.args.take (i + 1))).map (ac .i64))∧TT 1 (W6 ((i + 1 : Nat) : Int)∧TT 1 (AG (pR p n e) i (i + 1)))))) (TT 5 (CS (e.op = 16) (TT 3 ((True∧(decide (e.op = 16)) = true)∧TT 4 ((True∧(decide ((((o6 p (e.args.take i)).length : Nat) : Int) = 0)) = true)∧TT 4 (W6 ((p.regs.length : Int) - 1)∧CC (lP e.k.n 0 ((p.regs.length : Int) - 1))∧TT 2 ((decide (0 ≤ e.k.n) && decide (e.k.n ≤ ((p.regs.length : Int) - 1))) = true∧TT 3 (IX e.k.n p.regs.length∧TT 4 (CC (lP ((p.regs.getD e.k.n.toNat aA).w) 1 8)∧TT 1 ((!(decide (1 ≤ ((p.regs.getD e.k.n.toNat aA).w)) && decide (((p.regs.getD e.k.n.toNat aA).w) ≤ 8))) = false∧TT 5 ((((p.regs.getD e.k.n.toNat aA).w) = (kn p e)∧(0 : Int) = 0∧True)∧(True∧True∧True)))))))))) (TT 3 ((True∧(decide (e.op = 16)) = false)∧TT 13 (CS (e.op = 18) (TT 3 ((True∧(decide (e.op = 18)) = true)∧TT 4 ((True∧(decide ((((o6 p (e.args.take i)).length : Nat) : Int) = 0)) = true)∧TT 4 (W6 ((p.takes.length : Int) - 1)∧CC (lP e.k.n 0 ((p.takes.length : Int) - 1))∧TT 2 ((decide (0 ≤ e.k.n) && decide (e.k.n ≤ ((p.takes.length : Int) - 1))) = true∧TT 3 (IX e.k.n p.takes.length∧TT 4 (CC (lP ((p.takes.getD e.k.n.toNat aJ).w) 1 8)∧TT 1 ((!(decide (1 ≤ ((p.takes.getD e.k.n.toNat aJ).w)) && decide (((p.takes.getD e.k.n.toNat aJ).w) ≤ 8))) = false∧TT 5 ((((p.takes.getD e.k.n.toNat aJ).w) = (kn p e)∧(0 : Int) = 0∧True)∧(True∧True∧True)))))))))) (TT 3 ((True∧(decide (e.op = 18)) = false)∧TT 13 (CS (e.op = 17) (TT 3 ((True∧(decide (e.op = 17)) = true)∧TT 4 ((True∧(decide ((((o6 p (e.args.take i)).length : Nat) : Int) = 1)) = true)∧TT 4 (W6 ((p.mems.length : Int) - 1)∧CC (lP e.k.n 0 ((p.mems.length : Int) - 1))∧TT 2 ((decide (0 ≤ e.k.n) && decide (e.k.n ≤ ((p.mems.length : Int) - 1))) = true∧TT 3 (IX e.k.n p.mems.length∧TT 4 (CC (lP ((p.mems.getD e.k.n.toNat ai).w) 1 8)∧TT 1 ((!(decide (1 ≤ ((p.mems.getD e.k.n.toNat ai).w)) && decide (((p.mems.getD e.k.n.toNat ai).w) ≤ 8))) = false∧TT 5 ((((p.mems.getD e.k.n.toNat ai).w) = (kn p e)∧(0 : Int) = 0∧True)∧(True∧True∧True)))))))))) (TT 3 ((True∧(decide (e.op = 17)) = false)∧TT 21 (CK (C3 e.op (o6 p (e.args.take i)) e.k.n e.w.n)∧TT 5 (CC (lP (cu e.op (o6 p (e.args.take i)) e.k.n e.w.n) 1 8)∧TT 1 ((!(decide (1 ≤ (cu e.op (o6 p (e.args.take i)) e.k.n e.w.n)) && decide ((cu e.op (o6 p (e.args.take i)) e.k.n e.w.n) ≤ 8))) = false∧TT 5 (((cu e.op (o6 p (e.args.take i)) e.k.n e.w.n) = (kn p e)∧(0 : Int) = 0∧True)∧(True∧True∧True)))))))))))))))))))) (.w 1 [(1,(DE (n + 1) e).O)] <| .gs 4 6 3 1 (ac .i64) 0 <| .l (pR p n e) 0 (fun i => .b 20 (.w 7 [(2,(AC p n (e.args.getD i dE)).O)] <| .w 10 [(2,.box 3 1 (ac .i64) 0 [kn p (e.args.getD i dE)]),(3,.box 3 1 (ac .i64) 0 (o6 p (e.args.take (i + 1))))] <| .w 11 [(0,.val (i6 ((i + 1 : Nat) : Int)))] <| .e) (.s 14 (e.op = 16) (.w 14 [(3,.val (dB true)),(8,.val (dB true)),(13,.val (i6 ((p.regs.length : Int) - 1))),(14,(lP e.k.n 0 ((p.regs.length : Int) - 1)).O)] <| .t 52 (.w 20 [(1,(lP ((p.regs.getD e.k.n.toNat aA).w) 1 8).O)] <| .u 123 (.e))) (.w 14 [(3,.val (dB false))] <| .s 16 (e.op = 18) (.w 16 [(3,.val (dB true)),(8,.val (dB true)),(13,.val (i6 ((p.takes.length : Int) - 1))),(14,(lP e.k.n 0 ((p.takes.length : Int) - 1)).O)] <| .t 75 (.w 20 [(1,(lP ((p.takes.getD e.k.n.toNat aJ).w) 1 8).O)] <| .u 123 (.e))) (.w 16 [(3,.val (dB false))] <| .s 18 (e.op = 17) (.w 18 [(3,.val (dB true)),(8,.val (dB true)),(13,.val (i6 ((p.mems.length : Int) - 1))),(14,(lP e.k.n 0 ((p.mems.length : Int) - 1)).O)] <| .t 98 (.w 20 [(1,(lP ((p.mems.getD e.k.n.toNat ai).w) 1 8).O)] <| .u 123 (.e))) (.w 18 [(3,.val (dB false))] <| .w 13 [(8,(C3 e.op (o6 p (e.args.take i)) e.k.n e.w.n).O')] <| .w 20 [(1,(lP (cu e.op (o6 p (e.args.take i)) e.k.n e.w.n) 1 8).O)] <| .u 123 (.e))))))) Try.func30 rfl rfl rfl (by kernel_rfl) ?_
 refine tt ⟨(zp (n + 1) e (by assumption)),tt ⟨rfl,(by omega),?_⟩⟩
 intro i hinv
 have hi := hinv
 refine tt (cd (fun hc20 => ?_) (fun hc20 => ?_))
 · refine ⟨ix,tt ⟨(ih _ (eW (by omega))),tt ⟨⟨⟨rfl,oK⟩,oK⟩,⟨⟨by simp only [List.length_map,List.length_cons,List.length_nil]; rw [tC,List.length_take]; omega,by rw [ze (by omega),List.map_append]⟩,tt ⟨w6,tt ⟨(i + 1),rfl,(?_ : (i + 1) ≤ e.args.length),(?_ : e.args.length - (i + 1) < e.args.length - i)⟩⟩⟩⟩⟩⟩
   · omega
   · omega
 · have hie : i = e.args.length := by omega
   have hwl : (o6 p (e.args.take i)).length = e.args.length := by rw [tC,hie,List.take_length]
   refine tt ⟨fun hs0 => ?_,fun hs0 => ?_⟩
   · obtain ⟨w1,w2,w3,w4⟩ := BO ht (by assumption)
     refine tt ⟨(vT hs0),tt ⟨(vT (by first | omega | (simp; omega) | simp_all | (simp_all; omega))),tt ⟨w6,⟨(gg e.k.n 0 ((p.regs.length : Int) - 1)),tt ⟨(Dt (by first | omega | (simp; omega) | simp_all | (simp_all; omega))),tt ⟨ix,tt ⟨(gg ((p.regs.getD e.k.n.toNat aA).w) 1 8),tt ⟨(z5 (by first | (rw [w4]; simp; omega) | (rw [hie,List.take_length,o7 ht (by assumption) (by assumption) (by assumption)]; simp; omega))),tt ⟨⟨?_,rfl,oK⟩,⟨oK,oK,oK⟩⟩⟩⟩⟩⟩⟩⟩⟩⟩
     first | rfl | exact w4 | (rw [hie,List.take_length]; exact o7 ht (by assumption) (by assumption) (by assumption))
   · refine tt ⟨(vF hs0),tt ⟨fun hs1 => ?_,fun hs1 => ?_⟩⟩
     · obtain ⟨w1,w2,w3,w4⟩ := Au ht (by assumption)
       refine tt ⟨(vT hs1),tt ⟨(vT (by first | omega | (simp; omega) | simp_all | (simp_all; omega))),tt ⟨w6,⟨(gg e.k.n 0 ((p.takes.length : Int) - 1)),tt ⟨(Dt (by first | omega | (simp; omega) | simp_all | (simp_all; omega))),tt ⟨ix,tt ⟨(gg ((p.takes.getD e.k.n.toNat aJ).w) 1 8),tt ⟨(z5 (by first | (rw [w4]; simp; omega) | (rw [hie,List.take_length,o7 ht (by assumption) (by assumption) (by assumption)]; simp; omega))),tt ⟨⟨?_,rfl,oK⟩,⟨oK,oK,oK⟩⟩⟩⟩⟩⟩⟩⟩⟩⟩
       first | rfl | exact w4 | (rw [hie,List.take_length]; exact o7 ht (by assumption) (by assumption) (by assumption))
     · refine tt ⟨(vF hs1),tt ⟨fun hs2 => ?_,fun hs2 => ?_⟩⟩
       · obtain ⟨w1,w2,w3,w4⟩ := Av ht (by assumption)
         refine tt ⟨(vT hs2),tt ⟨(vT (by first | omega | (simp; omega) | simp_all | (simp_all; omega))),tt ⟨w6,⟨(gg e.k.n 0 ((p.mems.length : Int) - 1)),tt ⟨(Dt (by first | omega | (simp; omega) | simp_all | (simp_all; omega))),tt ⟨ix,tt ⟨(gg ((p.mems.getD e.k.n.toNat ai).w) 1 8),tt ⟨(z5 (by first | (rw [w4]; simp; omega) | (rw [hie,List.take_length,o7 ht (by assumption) (by assumption) (by assumption)]; simp; omega))),tt ⟨⟨?_,rfl,oK⟩,⟨oK,oK,oK⟩⟩⟩⟩⟩⟩⟩⟩⟩⟩
         first | rfl | exact w4 | (rw [hie,List.take_length]; exact o7 ht (by assumption) (by assumption) (by assumption))
       · refine tt ⟨(vF hs2),tt ⟨⟨b7 _ rfl,(uU e.op (o6 p (e.args.take i)) e.k.n e.w.n (by rw [hwl]; omega))⟩,tt ⟨(gg (cu e.op (o6 p (e.args.take i)) e.k.n e.w.n) 1 8),tt ⟨(z5 (by first | (rw [w4]; simp; omega) | (rw [hie,List.take_length,o7 ht (by assumption) (by assumption) (by assumption)]; simp; omega))),tt ⟨⟨?_,rfl,oK⟩,⟨oK,oK,oK⟩⟩⟩⟩⟩⟩
         first | rfl | exact w4 | (rw [hie,List.take_length]; exact o7 ht (by assumption) (by assumption) (by assumption))
theorem qX {p : Pr} (hp : dA p) : ∀ (n : Nat) (e : Ex) (v : Int),cz (ee p) e = some v → eh e → ce e ≤ n + 1 → CC (AC p n e)
  | 0,e,v,ht,hf,hd => by
    have ha : e.args = [] := by
      cases hl : e.args with
      | nil => rfl
      | cons a r =>
        have := fA (e := e) (a := a) (by rw [hl]; simp)
        have := kk a
        omega
    have h := w9 p 0 e hp ht hf (fun a h => by rw [ha] at h; cases h)
    refine ak.recast ?_ h
    refine ⟨qD _ rfl,⟨rfl,rfl,rfl,rfl,rfl,rfl,?_,oK⟩,oK⟩
    show e.args.map (eA 0) = e.args.map (eA 1)
    rw [ha]; rfl
  | n + 1,e,v,ht,hf,hd => w9 p n e hp ht hf (fun a h => by
    obtain ⟨w,hw⟩ := to ht h
    exact qX hp n a w hw (hf.arg h) (by have := fA h; omega))
end Go.Proofs.Ytgfbfajaaaegjaa
