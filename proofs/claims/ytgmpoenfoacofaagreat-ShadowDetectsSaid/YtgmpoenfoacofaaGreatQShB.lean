/-
  Package shadow: first elements, differences, agreement.
-/
import Derived.Test.YtgmpoenfoacofaaGreatQNeJ
import Derived.Test.YtgmpoenfoacofaaGreatQShA
namespace Go.Proofs.YtgmpoenfoacofaaGreat
open Go.RowKit
set_option linter.unusedVariables false
set_option linter.unusedSimpArgs false
abbrev Cq (z : Sm) : D := (.fn (.func 61) [] [(.iptr [(.str z.name),(.sl 1 (ah .i64) 0 z.words)] 0)])
abbrev Cr (z : Sm) : D := (.fn (.func 65) [] [(.iptr [(.str z.name),(.sl 1 (ah .i64) 0 z.words)] 0)])
set_option maxRecDepth 100000
abbrev Iz (h : Ch) (z : Sm) : Ct := ⟨61,[(.agg [(dS h.name),(i6 h.w),(i6 h.cap),(i6 h.frm),(i6 h.dst)]),(.iptr [(.str z.name),(.sl 1 (ah .i64) 0 z.words)] 0)],false,(dB (decide (h.frm = -1) && (h.name.toList == z.name.toList)))⟩
theorem Ao (h : Ch) (z : Sm) : CC (Iz h z) := by
 refine af.vc (V := TT 2 (CS (h.frm = (-1)) (TT 3 ((True∧(decide (h.frm = (-1))) = true)∧TT 8 ((h.name.toList == z.name.toList) = (decide (h.frm = -1) && (h.name.toList == z.name.toList))∧True))) (TT 3 ((True∧(decide (h.frm = (-1))) = false)∧TT 8 (false = (decide (h.frm = -1) && (h.name.toList == z.name.toList))∧True))))) (.s 1 (h.frm = (-1)) (.w 1 [(3,.val (dB true))] <| .e) (.w 1 [(3,.val (dB false))] <| .e)) Tryz.func61 rfl rfl rfl (by kernel_rfl) ?_
 refine tt ⟨fun hs0 => ?_,fun hs0 => ?_⟩
 · refine tt ⟨(vT hs0),tt ⟨?_,oK⟩⟩
   first | (rw [decide_eq_true hs0]; rfl) | (rw [decide_eq_false hs0]; rfl)
 · refine tt ⟨(vF hs0),tt ⟨?_,oK⟩⟩
   first | (rw [decide_eq_true hs0]; rfl) | (rw [decide_eq_false hs0]; rfl)
abbrev IA (y z : Sm) : Ct := ⟨65,[(.agg [(dS y.name),(LI y.words)]),(.iptr [(.str z.name),(.sl 1 (ah .i64) 0 z.words)] 0)],false,(dB (y.name.toList == z.name.toList))⟩
theorem xP (y z : Sm) : CC (IA y z) := by
 refine af.vc (V := TT 9 ((y.name.toList == z.name.toList) = (y.name.toList == z.name.toList)∧True)) (.e) Tryz.func65 rfl rfl rfl (by kernel_rfl) ?_
 exact tt ⟨rfl,oK⟩
abbrev IB (y z : Sm) : Ct := ⟨44,[(.agg [(dS y.name),(LI y.words)]),(.agg [(dS z.name),(LI z.words)])],false,(dB ((y.name.toList == z.name.toList) && decide (y.words.length = z.words.length)))⟩
theorem Cs (y z : Sm) : CC (IB y z) := by
 refine af.vc (V := TT 3 (CS ((y.name.toList == z.name.toList) = true) (TT 5 ((True∧(y.name.toList == z.name.toList) = true)∧TT 10 (((y.words.length : Int) == (z.words.length : Int)) = ((y.name.toList == z.name.toList) && decide (y.words.length = z.words.length))∧True))) (TT 5 ((True∧(y.name.toList == z.name.toList) = false)∧TT 10 (false = ((y.name.toList == z.name.toList) && decide (y.words.length = z.words.length))∧True))))) (.s 1 ((y.name.toList == z.name.toList) = true) (.w 1 [(5,.val (dB true))] <| .e) (.w 1 [(5,.val (dB false))] <| .e)) Tryz.func44 rfl rfl rfl (by kernel_rfl) ?_
 refine tt ⟨fun hs0 => ?_,fun hs0 => ?_⟩
 · refine tt ⟨(bT hs0),tt ⟨?_,oK⟩⟩
   first | (rw [show (y.name.toList == z.name.toList) = true from hs0,Bool.true_and]; exact decide_eq_decide.2 (by omega)) | (rw [show (y.name.toList == z.name.toList) = false by simpa using hs0]; rfl)
 · refine tt ⟨(bF hs0),tt ⟨?_,oK⟩⟩
   first | (rw [show (y.name.toList == z.name.toList) = true from hs0,Bool.true_and]; exact decide_eq_decide.2 (by omega)) | (rw [show (y.name.toList == z.name.toList) = false by simpa using hs0]; rfl)
abbrev F2 (l : List Ch) (z : Sm) : Ct := ⟨74,[(dL 5 d7 be l),(Cq z)],false,(i6 (bg l z.name))⟩
abbrev qh (l : List Ch) (z : Sm) : Lp (Nat) := jO [0,1,7,8] 0 (fun (i : Nat) => ⟨[(0,(dL 5 d7 be l)),(1,(Cq z)),(7,(i6 (l.length : Int))),(8,(i6 (i : Int)))],[]⟩) (fun (i : Nat) => i ≤ l.length∧∀ q,q < i → wk l z.name q = false) (fun (i : Nat) => l.length - i)
theorem D8 (l : List Ch) (z : Sm) (hl : l.length ≤ 9223372036854775807) : CC (F2 l z) := by
 refine af.vc (V := TT 4 (GO (qh l z) 0 (∀ i,(qh l z).inv i → TT 1 (CD ((i : Int) < (l.length : Int)) (TT 5 (IX (i : Int) l.length∧TT 1 (CC (Iz (l.getD i be) z)∧CB (decide ((l.getD i be).frm = -1) && ((l.getD i be).name.toList == z.name.toList)) (TT 3 ((i : Int) = (bg l z.name)∧True)) (W6 ((i + 1 : Nat) : Int)∧TT 1 (AG (qh l z) i (i + 1)))))) (TT 2 ((-1) = (bg l z.name)∧True)))))) (.l (qh l z) 0 (fun i => .b 9 (.w 4 [(5,(Iz (l.getD i be) z).O)] <| .b 16 (.e) (.w 6 [(0,.val (i6 ((i + 1 : Nat) : Int)))] <| .e)) (.e))) Tryz.func74 rfl rfl rfl (by kernel_rfl) ?_
 refine tt ⟨rfl,⟨by omega,fun q hq => by omega⟩,?_⟩
 intro i hinv
 obtain ⟨hi,h3⟩ := hinv
 refine tt (cd (fun hc9 => ?_) (fun hc9 => ?_))
 · refine tt ⟨ix,tt ⟨(Ao (l.getD i be) z),⟨fun hc16 => ?_,fun hc16 => ?_⟩⟩⟩
   · refine tt ⟨?_,oK⟩
     first | exact (bM (f := wk l z.name) hc16 h3 (by omega)).symm | exact (cY (f := wk l z.name) (fun q hq => h3 q (by omega))).symm
   · refine ⟨w6,tt ⟨(i + 1),rfl,?_,(?_ : l.length - (i + 1) < l.length - i)⟩⟩
     · exact ⟨by omega,b6 h3 hc16⟩
     · omega
 · refine tt ⟨?_,oK⟩
   first | exact (bM (f := wk l z.name) hc16 h3 (by omega)).symm | exact (cY (f := wk l z.name) (fun q hq => h3 q (by omega))).symm
abbrev F3 (l : List Sm) (z : Sm) : Ct := ⟨81,[(dL 2 kN bP l),(Cr z)],false,(i6 (aW l z.name))⟩
abbrev qi (l : List Sm) (z : Sm) : Lp (Nat) := jO [0,1,7,8] 0 (fun (i : Nat) => ⟨[(0,(dL 2 kN bP l)),(1,(Cr z)),(7,(i6 (l.length : Int))),(8,(i6 (i : Int)))],[]⟩) (fun (i : Nat) => i ≤ l.length∧∀ q,q < i → EW l z.name q = false) (fun (i : Nat) => l.length - i)
theorem D9 (l : List Sm) (z : Sm) (hl : l.length ≤ 9223372036854775807) : CC (F3 l z) := by
 refine af.vc (V := TT 4 (GO (qi l z) 0 (∀ i,(qi l z).inv i → TT 1 (CD ((i : Int) < (l.length : Int)) (TT 5 (IX (i : Int) l.length∧TT 1 (CC (IA (l.getD i bP) z)∧CB ((l.getD i bP).name.toList == z.name.toList) (TT 3 ((i : Int) = (aW l z.name)∧True)) (W6 ((i + 1 : Nat) : Int)∧TT 1 (AG (qi l z) i (i + 1)))))) (TT 2 ((-1) = (aW l z.name)∧True)))))) (.l (qi l z) 0 (fun i => .b 9 (.w 4 [(5,(IA (l.getD i bP) z).O)] <| .b 16 (.e) (.w 6 [(0,.val (i6 ((i + 1 : Nat) : Int)))] <| .e)) (.e))) Tryz.func81 rfl rfl rfl (by kernel_rfl) ?_
 refine tt ⟨rfl,⟨by omega,fun q hq => by omega⟩,?_⟩
 intro i hinv
 obtain ⟨hi,h3⟩ := hinv
 refine tt (cd (fun hc9 => ?_) (fun hc9 => ?_))
 · refine tt ⟨ix,tt ⟨(xP (l.getD i bP) z),⟨fun hc16 => ?_,fun hc16 => ?_⟩⟩⟩
   · refine tt ⟨?_,oK⟩
     first | exact (bM (f := EW l z.name) hc16 h3 (by omega)).symm | exact (cY (f := EW l z.name) (fun q hq => h3 q (by omega))).symm
   · refine ⟨w6,tt ⟨(i + 1),rfl,?_,(?_ : l.length - (i + 1) < l.length - i)⟩⟩
     · exact ⟨by omega,b6 h3 hc16⟩
     · omega
 · refine tt ⟨?_,oK⟩
   first | exact (bM (f := EW l z.name) hc16 h3 (by omega)).symm | exact (cY (f := EW l z.name) (fun q hq => h3 q (by omega))).symm
abbrev Cu (l : List Ch) (z : Sm) : Ct := ⟨60,[(dL 5 d7 be l),(Cq z)],true,(.tup [(.agg [(dS ((ka l (bg l z.name)).name)),(i6 ((ka l (bg l z.name)).w)),(i6 ((ka l (bg l z.name)).cap)),(i6 ((ka l (bg l z.name)).frm)),(i6 ((ka l (bg l z.name)).dst))]),(i6 (bg l z.name))])⟩
theorem y6 (l : List Ch) (z : Sm) (hl : l.length ≤ 9223372036854775807) : CC (Cu l z) := by
 refine af.vc (V := TT 4 (CC (F2 l z)∧TT 3 (CD ((bg l z.name) < 0) (TT 7 ((e0 = ((ka l (bg l z.name)).name)∧(0 : Int) = ((ka l (bg l z.name)).w)∧(0 : Int) = ((ka l (bg l z.name)).cap)∧(0 : Int) = ((ka l (bg l z.name)).frm)∧(0 : Int) = ((ka l (bg l z.name)).dst)∧True)∧(bg l z.name) = (bg l z.name)∧True)) (TT 2 (IX (bg l z.name) l.length∧TT 6 ((((l.getD ((bg l z.name).toNat) be).name) = ((ka l (bg l z.name)).name)∧((l.getD ((bg l z.name).toNat) be).w) = ((ka l (bg l z.name)).w)∧((l.getD ((bg l z.name).toNat) be).cap) = ((ka l (bg l z.name)).cap)∧((l.getD ((bg l z.name).toNat) be).frm) = ((ka l (bg l z.name)).frm)∧((l.getD ((bg l z.name).toNat) be).dst) = ((ka l (bg l z.name)).dst)∧True)∧(bg l z.name) = (bg l z.name)∧True)))))) (.w 1 [(2,(F2 l z).O)] <| .b 12 (.e) (.e)) Tryz.func60 rfl rfl rfl (by kernel_rfl) ?_
 refine tt ⟨(D8 l z om),tt (cd (fun hc12 => ?_) (fun hc12 => ?_))⟩
 · refine tt ⟨⟨?_,?_,?_,?_,?_,oK⟩,rfl,oK⟩
   all_goals (all_goals (first | rfl | (rw [y3 (by omega)]; done) | (rw [wl (by omega)])))
 · have hlt : bg l z.name < l.length := oM
   refine tt ⟨ix,tt ⟨⟨?_,?_,?_,?_,?_,oK⟩,rfl,oK⟩⟩
   all_goals (all_goals (first | rfl | (rw [y3 (by omega)]; done) | (rw [wl (by omega)])))
abbrev Cv (l : List Sm) (z : Sm) : Ct := ⟨66,[(dL 2 kN bP l),(Cr z)],true,(.tup [(.agg [(dS ((gt l (aW l z.name)).name)),(LI ((gt l (aW l z.name)).words))]),(i6 (aW l z.name))])⟩
theorem y7 (l : List Sm) (z : Sm) (hl : l.length ≤ 9223372036854775807) : CC (Cv l z) := by
 refine af.vc (V := TT 4 (CC (F3 l z)∧TT 3 (CD ((aW l z.name) < 0) (TT 1 ((True∧(e0 = ((gt l (aW l z.name)).name)∧((gt l (aW l z.name)).words) = []∧True))∧TT 5 ((((gt l (aW l z.name)).name) = ((gt l (aW l z.name)).name)∧((gt l (aW l z.name)).words).map (ah .i64) = ((gt l (aW l z.name)).words).map (ah .i64)∧True)∧(aW l z.name) = (aW l z.name)∧True))) (TT 2 (IX (aW l z.name) l.length∧TT 6 ((((l.getD ((aW l z.name).toNat) bP).name) = ((gt l (aW l z.name)).name)∧((l.getD ((aW l z.name).toNat) bP).words).map (ah .i64) = ((gt l (aW l z.name)).words).map (ah .i64)∧True)∧(aW l z.name) = (aW l z.name)∧True)))))) (.w 1 [(2,(F3 l z).O)] <| .b 12 (.w 4 [(0,.val (.agg [(dS ((gt l (aW l z.name)).name)),(LI ((gt l (aW l z.name)).words))]))] <| .e) (.e)) Tryz.func66 rfl rfl rfl (by kernel_rfl) ?_
 refine tt ⟨(D9 l z om),tt (cd (fun hc12 => ?_) (fun hc12 => ?_))⟩
 · exact tt ⟨⟨oK,(by rw [y4 (by omega)]; exact ⟨rfl,rfl,oK⟩)⟩,tt ⟨⟨rfl,rfl,oK⟩,rfl,oK⟩⟩
 · have hlt : aW l z.name < l.length := oM
   refine tt ⟨ix,tt ⟨⟨?_,(congrArg _ (?_ : ((l.getD ((aW l z.name).toNat) bP).words) = ((gt l (aW l z.name)).words))),oK⟩,rfl,oK⟩⟩
   all_goals (all_goals (first | rfl | (rw [y4 (by omega)]; done) | (rw [wm (by omega)])))
abbrev IC (a b : List Int) : Ct := ⟨67,[(LI a),(LI b)],false,(i6 (gu a b))⟩
abbrev qj (a : List Int) (b : List Int) : Lp (Nat) := jO [0,1,10,11] 0 (fun (i : Nat) => ⟨[(0,(LI a)),(1,(LI b)),(10,(i6 (((min a.length b.length) : Nat) : Int))),(11,(i6 (i : Int)))],[]⟩) (fun (i : Nat) => i ≤ min a.length b.length∧∀ q,q < i → ni a b q = false) (fun (i : Nat) => min a.length b.length - i)
theorem Ea (a b : List Int) (ha : a.length ≤ 9223372036854775807) : CC (IC a b) := by
 refine af.vc (V := TT 5 ((True∧(zB (a.length : Int) (b.length : Int)) = (((min a.length b.length) : Nat) : Int))∧TT 1 (GO (qj a b) 0 (∀ i,(qj a b).inv i → TT 1 (CD ((i : Int) < (((min a.length b.length) : Nat) : Int)) (TT 4 (IX (i : Int) a.length∧TT 3 (IX (i : Int) b.length∧TT 2 (CN ((a.getD i 0) = (b.getD i 0)) (TT 3 ((i : Int) = (gu a b)∧True)) (W6 ((i + 1 : Nat) : Int)∧TT 1 (AG (qj a b) i (i + 1))))))) (TT 2 ((-1) = (gu a b)∧True))))))) (.w 1 [(4,.val (i6 (((min a.length b.length) : Nat) : Int)))] <| .l (qj a b) 0 (fun i => .b 12 (.b 22 (.e) (.w 6 [(0,.val (i6 ((i + 1 : Nat) : Int)))] <| .e)) (.e))) Tryz.func67 rfl rfl rfl (by kernel_rfl) ?_
 refine tt ⟨⟨oK,(by unfold zB; split <;> omega)⟩,tt ⟨rfl,⟨by omega,fun q hq => by omega⟩,?_⟩⟩
 intro i hinv
 obtain ⟨hi,h3⟩ := hinv
 refine tt (cd (fun hc12 => ?_) (fun hc12 => ?_))
 · refine tt ⟨ix,tt ⟨ix,tt (cn (fun hc22 => ?_) (fun hc22 => ?_))⟩⟩
   · refine tt ⟨?_,oK⟩
     first | exact (bM (f := ni a b) (by unfold ni; rw [decide_eq_false hc22]; rfl) h3 (by omega)).symm | exact (cY (f := ni a b) (fun q hq => h3 q (by omega))).symm
   · refine ⟨w6,tt ⟨(i + 1),rfl,?_,(?_ : min a.length b.length - (i + 1) < min a.length b.length - i)⟩⟩
     · exact ⟨by omega,b6 h3 (by unfold ni; rw [decide_eq_true hc22]; rfl)⟩
     · omega
 · refine tt ⟨?_,oK⟩
   first | exact (bM (f := ni a b) (by unfold ni; rw [decide_eq_false hc22]; rfl) h3 (by omega)).symm | exact (cY (f := ni a b) (fun q hq => h3 q (by omega))).symm
abbrev Hi (a b : List Sm) : Ct := ⟨40,[(dL 2 kN bP a),(dL 2 kN bP b)],false,(.tup [(dS ((d8 a b).name)),(i6 ((d8 a b).pos)),(dB ((d8 a b).is))])⟩
abbrev fO (a : List Sm) (b : List Sm) : Lp (Nat) := jO [0,1,15,16,17] 0 (fun (i : Nat) => ⟨[(0,(dL 2 kN bP a)),(1,(dL 2 kN bP b)),(15,(dL 2 kN bP a)),(16,(i6 (a.length : Int))),(17,(i6 (i : Int)))],[]⟩) (fun (i : Nat) => i ≤ a.length∧∀ q,q < i → jB a b q = false) (fun (i : Nat) => a.length - i)
theorem tK (a b : List Sm) (ha : a.length ≤ 9223372036854775807) (hb : b.length ≤ 9223372036854775807) (hwa : ∀ i,(a.getD i bP).words.length ≤ 9223372036854775807) : CC (Hi a b) := by
 refine af.vc (V := TT 6 (GO (fO a b) 0 (∀ i,(fO a b).inv i → TT 1 (CD ((i : Int) < (a.length : Int)) (TT 1 (IX (i : Int) a.length∧TT 8 (CC (Cv b (a.getD i bP))∧TT 8 (CC (Cv a (a.getD i bP))∧TT 6 (CS ((aW a (a.getD i bP).name) = (i : Int)) (TT 3 ((True∧(!decide ((aW a (a.getD i bP).name) = (i : Int))) = false)∧TT 3 (CD ((aW b (a.getD i bP).name) < 0) (W6 ((i + 1 : Nat) : Int)∧TT 1 (AG (fO a b) i (i + 1))) (TT 4 (CC (IC ((a.getD i bP).words) ((gt b (aW b (a.getD i bP).name)).words))∧TT 3 (CD ((gu ((a.getD i bP).words) ((gt b (aW b (a.getD i bP).name)).words)) ≥ 0) (TT 9 ((((a.getD i bP).name) = ((d8 a b).name)∧(gu ((a.getD i bP).words) ((gt b (aW b (a.getD i bP).name)).words)) = ((d8 a b).pos)∧false = ((d8 a b).is)∧True)∧(True∧True∧True∧True))) (W6 ((i + 1 : Nat) : Int)∧TT 1 (AG (fO a b) i (i + 1))))))))) (TT 3 ((True∧(!decide ((aW a (a.getD i bP).name) = (i : Int))) = true)∧TT 3 (W6 ((i + 1 : Nat) : Int)∧TT 1 (AG (fO a b) i (i + 1)))))))))) (TT 6 ((e0 = ((d8 a b).name)∧(0 : Int) = ((d8 a b).pos)∧true = ((d8 a b).is)∧True)∧(True∧True∧True∧True))))))) (.l (fO a b) 0 (fun i => .b 18 (.f 4 0 <| .w 5 [(2,(Cv b (a.getD i bP)).O)] <| .w 6 [(2,(Cv a (a.getD i bP)).O)] <| .s 7 ((aW a (a.getD i bP).name) = (i : Int)) (.w 7 [(3,.val (dB false))] <| .b 41 (.w 11 [(0,.val (i6 ((i + 1 : Nat) : Int)))] <| .e) (.w 8 [(4,(IC ((a.getD i bP).words) ((gt b (aW b (a.getD i bP).name)).words)).O)] <| .b 48 (.e) (.w 11 [(0,.val (i6 ((i + 1 : Nat) : Int)))] <| .e))) (.w 7 [(3,.val (dB true))] <| .w 11 [(0,.val (i6 ((i + 1 : Nat) : Int)))] <| .e)) (.e))) Tryz.func40 rfl rfl rfl (by kernel_rfl) ?_
 refine tt ⟨rfl,⟨by omega,fun q hq => by omega⟩,?_⟩
 intro i hinv
 obtain ⟨hi,h3⟩ := hinv
 refine tt (cd (fun hc18 => ?_) (fun hc18 => ?_))
 · refine tt ⟨ix,tt ⟨(y7 b (a.getD i bP) hb),tt ⟨(y7 a (a.getD i bP) ha),tt ⟨fun hs0 => ?_,fun hs0 => ?_⟩⟩⟩⟩
   · refine tt ⟨(nF hs0),tt (cd (fun hc41 => ?_) (fun hc41 => ?_))⟩
     · refine ⟨w6,tt ⟨(i + 1),rfl,?_,(?_ : a.length - (i + 1) < a.length - i)⟩⟩
       · exact ⟨by omega,b6 h3 (by first | exact uW (by first | exact hs0 | exact hs1 | assumption) | exact nj (by assumption) | exact qc (by assumption))⟩
       · omega
     · refine tt ⟨(Ea ((a.getD i bP).words) ((gt b (aW b (a.getD i bP).name)).words) (hwa i)),tt (cd (fun hc48 => ?_) (fun hc48 => ?_))⟩
       · refine tt ⟨⟨?_,?_,?_,oK⟩,⟨oK,oK,oK,oK⟩⟩
         all_goals (all_goals (first | (rw [tJ (fun q hq => h3 q (by omega))]; done) | (rw [uV (i := i) (by omega) (qe (by omega) (by omega) (by omega)) h3]; rfl)))
       · refine ⟨w6,tt ⟨(i + 1),rfl,?_,(?_ : a.length - (i + 1) < a.length - i)⟩⟩
         · exact ⟨by omega,b6 h3 (by first | exact uW (by first | exact hs0 | exact hs1 | assumption) | exact nj (by assumption) | exact qc (by assumption))⟩
         · omega
   · refine tt ⟨(nT hs0),tt ⟨w6,tt ⟨(i + 1),rfl,?_,(?_ : a.length - (i + 1) < a.length - i)⟩⟩⟩
     · exact ⟨by omega,b6 h3 (by first | exact uW (by first | exact hs0 | exact hs1 | assumption) | exact nj (by assumption) | exact qc (by assumption))⟩
     · omega
 · refine tt ⟨⟨?_,?_,?_,oK⟩,⟨oK,oK,oK,oK⟩⟩
   all_goals (all_goals (first | (rw [tJ (fun q hq => h3 q (by omega))]; done) | (rw [uV (i := i) (by omega) (qe (by omega) (by omega) (by omega)) h3]; rfl)))
abbrev F4 (a b : List Sm) : Ct := ⟨43,[(dL 2 kN bP a),(dL 2 kN bP b),(.fn (.func 44) [] [])],false,(dB (nk a b))⟩
abbrev qk (a : List Sm) (b : List Sm) : Lp (Nat) := jO [1,2,15,16,17] 0 (fun (i : Nat) => ⟨[(1,(dL 2 kN bP b)),(2,(.fn (.func 44) [] [])),(15,(dL 2 kN bP a)),(16,(i6 (a.length : Int))),(17,(i6 (i : Int)))],[]⟩) (fun (i : Nat) => i ≤ a.length∧∀ q,q < i → rL a b q = true) (fun (i : Nat) => a.length - i)
theorem Eb (a b : List Sm) (ha : a.length ≤ 9223372036854775807) : CC (F4 a b) := by
 refine af.vc (V := TT 6 (CN ((a.length : Int) = (b.length : Int)) (TT 2 (false = (nk a b)∧True)) (TT 3 (GO (qk a b) 0 (∀ i,(qk a b).inv i → TT 1 (CD ((i : Int) < (a.length : Int)) (TT 1 (IX (i : Int) a.length∧TT 6 (IX (i : Int) b.length∧TT 6 (CC (IB (a.getD i bP) (b.getD i bP))∧TT 1 (CB (!(((a.getD i bP).name.toList == (b.getD i bP).name.toList) && decide ((a.getD i bP).words.length = (b.getD i bP).words.length))) (TT 2 (false = (nk a b)∧True)) (W6 ((i + 1 : Nat) : Int)∧TT 1 (AG (qk a b) i (i + 1)))))))) (TT 2 (true = (nk a b)∧True)))))))) (.b 14 (.e) (.l (qk a b) 0 (fun i => .b 18 (.w 7 [(3,(IB (a.getD i bP) (b.getD i bP)).O)] <| .b 30 (.e) (.w 9 [(0,.val (i6 ((i + 1 : Nat) : Int)))] <| .e)) (.e)))) Tryz.func43 rfl rfl rfl (by kernel_rfl) ?_
 refine tt (cn (fun hc14 => ?_) (fun hc14 => ?_))
 · refine tt ⟨?_,oK⟩
   first | exact (uX (by omega)).symm | exact (qf (i := i) (by omega) (by rw [Bool.not_eq_eq_eq_not,Bool.not_true] at hc30; exact hc30)).symm | exact (qg (by omega) (fun q hq => h3 q (by omega))).symm
 · refine tt ⟨rfl,⟨by omega,fun q hq => by omega⟩,?_⟩
   intro i hinv
   obtain ⟨hi,h3⟩ := hinv
   refine tt (cd (fun hc18 => ?_) (fun hc18 => ?_))
   · refine tt ⟨ix,tt ⟨ix,tt ⟨(Cs (a.getD i bP) (b.getD i bP)),tt ⟨fun hc30 => ?_,fun hc30 => ?_⟩⟩⟩⟩
     · refine tt ⟨?_,oK⟩
       first | exact (uX (by omega)).symm | exact (qf (i := i) (by omega) (by rw [Bool.not_eq_eq_eq_not,Bool.not_true] at hc30; exact hc30)).symm | exact (qg (by omega) (fun q hq => h3 q (by omega))).symm
     · refine ⟨w6,tt ⟨(i + 1),rfl,?_,(?_ : a.length - (i + 1) < a.length - i)⟩⟩
       · exact ⟨by omega,b6 h3 (by unfold rL; simpa using hc30)⟩
       · omega
   · refine tt ⟨?_,oK⟩
     first | exact (uX (by omega)).symm | exact (qf (i := i) (by omega) (by rw [Bool.not_eq_eq_eq_not,Bool.not_true] at hc30; exact hc30)).symm | exact (qg (by omega) (fun q hq => h3 q (by omega))).symm
abbrev F5 (a b : List Sm) : Ct := ⟨21,[(dL 2 kN bP a),(dL 2 kN bP b)],false,(dB (lk a b))⟩
theorem kb (a b : List Sm) (ha : a.length ≤ 9223372036854775807) (hb : b.length ≤ 9223372036854775807) (hwa : ∀ i,(a.getD i bP).words.length ≤ 9223372036854775807) : CC (F5 a b) := by
 refine af.vc (V := TT 3 (CC (Hi a b)∧TT 7 (CS (((d8 a b).is) = true) (TT 1 ((True∧((d8 a b).is) = true)∧TT 2 (CC (F4 a b)∧TT 3 ((nk a b) = (lk a b)∧True)))) (TT 1 ((True∧((d8 a b).is) = false)∧TT 6 (false = (lk a b)∧True)))))) (.w 1 [(2,(Hi a b).O)] <| .s 2 (((d8 a b).is) = true) (.w 2 [(1,.val (dB true)),(4,(F4 a b).O)] <| .e) (.w 2 [(1,.val (dB false))] <| .e)) Tryz.func21 rfl rfl rfl (by kernel_rfl) ?_
 refine tt ⟨(tK a b ha hb hwa),tt ⟨fun hs0 => ?_,fun hs0 => ?_⟩⟩
 · refine tt ⟨(bT hs0),tt ⟨(Eb a b ha),tt ⟨?_,oK⟩⟩⟩
   first | (rw [y5 (by simpa using hs0)]) | (rw [Cp (by simpa using hs0)]; rfl)
 · refine tt ⟨(bF hs0),tt ⟨?_,oK⟩⟩
   first | (rw [y5 (by simpa using hs0)]) | (rw [Cp (by simpa using hs0)]; rfl)
end Go.Proofs.YtgmpoenfoacofaaGreat
