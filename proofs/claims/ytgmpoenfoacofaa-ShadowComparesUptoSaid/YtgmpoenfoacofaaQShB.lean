/-
  Package shadow: first elements, differences, agreement.
-/
import Derived.Test.YtgmpoenfoacofaaQNeJ
import Derived.Test.YtgmpoenfoacofaaQShA
namespace Go.Proofs.Ytgmpoenfoacofaa
open Go.RowKit
set_option linter.unusedVariables false
set_option linter.unusedSimpArgs false
abbrev ut (z : Sm) : D := (.fn (.func 46) [] [(.iptr [(.str z.name),(.sl 1 (af .i64) 0 z.words)] 0)])
abbrev uu (z : Sm) : D := (.fn (.func 37) [] [(.iptr [(.str z.name),(.sl 1 (af .i64) 0 z.words)] 0)])
set_option maxRecDepth 100000
abbrev y3 (h : Ch) (z : Sm) : Ct := ⟨46,[(.agg [(dS h.name),(i6 h.w),(i6 h.cap),(i6 h.frm),(i6 h.dst)]),(.iptr [(.str z.name),(.sl 1 (af .i64) 0 z.words)] 0)],false,(dB (decide (h.frm = -1) && (h.name.toList == z.name.toList)))⟩
theorem sQ (h : Ch) (z : Sm) : CC (y3 h z) := by
 refine ai.vc (V := TT 2 (CS (h.frm = (-1)) (TT 3 ((True∧(decide (h.frm = (-1))) = true)∧TT 8 ((h.name.toList == z.name.toList) = (decide (h.frm = -1) && (h.name.toList == z.name.toList))∧True))) (TT 3 ((True∧(decide (h.frm = (-1))) = false)∧TT 8 (false = (decide (h.frm = -1) && (h.name.toList == z.name.toList))∧True))))) (.s 1 (h.frm = (-1)) (.w 1 [(3,.val (dB true))] <| .e) (.w 1 [(3,.val (dB false))] <| .e)) Try.func46 rfl rfl rfl (by kernel_rfl) ?_
 refine tt ⟨fun hs0 => ?_,fun hs0 => ?_⟩
 · refine tt ⟨(vT hs0),tt ⟨?_,oK⟩⟩
   first | (rw [decide_eq_true hs0]; rfl) | (rw [decide_eq_false hs0]; rfl)
 · refine tt ⟨(vF hs0),tt ⟨?_,oK⟩⟩
   first | (rw [decide_eq_true hs0]; rfl) | (rw [decide_eq_false hs0]; rfl)
abbrev y4 (y z : Sm) : Ct := ⟨37,[(.agg [(dS y.name),(LI y.words)]),(.iptr [(.str z.name),(.sl 1 (af .i64) 0 z.words)] 0)],false,(dB (y.name.toList == z.name.toList))⟩
theorem qK (y z : Sm) : CC (y4 y z) := by
 refine ai.vc (V := TT 9 ((y.name.toList == z.name.toList) = (y.name.toList == z.name.toList)∧True)) (.e) Try.func37 rfl rfl rfl (by kernel_rfl) ?_
 exact tt ⟨rfl,oK⟩
abbrev y5 (y z : Sm) : Ct := ⟨23,[(.agg [(dS y.name),(LI y.words)]),(.agg [(dS z.name),(LI z.words)])],false,(dB ((y.name.toList == z.name.toList) && decide (y.words.length = z.words.length)))⟩
theorem uv (y z : Sm) : CC (y5 y z) := by
 refine ai.vc (V := TT 3 (CS ((y.name.toList == z.name.toList) = true) (TT 5 ((True∧(y.name.toList == z.name.toList) = true)∧TT 10 (((y.words.length : Int) == (z.words.length : Int)) = ((y.name.toList == z.name.toList) && decide (y.words.length = z.words.length))∧True))) (TT 5 ((True∧(y.name.toList == z.name.toList) = false)∧TT 10 (false = ((y.name.toList == z.name.toList) && decide (y.words.length = z.words.length))∧True))))) (.s 1 ((y.name.toList == z.name.toList) = true) (.w 1 [(5,.val (dB true))] <| .e) (.w 1 [(5,.val (dB false))] <| .e)) Try.func23 rfl rfl rfl (by kernel_rfl) ?_
 refine tt ⟨fun hs0 => ?_,fun hs0 => ?_⟩
 · refine tt ⟨(bT hs0),tt ⟨?_,oK⟩⟩
   first | (rw [show (y.name.toList == z.name.toList) = true from hs0,Bool.true_and]; exact decide_eq_decide.2 (by omega)) | (rw [show (y.name.toList == z.name.toList) = false by simpa using hs0]; rfl)
 · refine tt ⟨(bF hs0),tt ⟨?_,oK⟩⟩
   first | (rw [show (y.name.toList == z.name.toList) = true from hs0,Bool.true_and]; exact decide_eq_decide.2 (by omega)) | (rw [show (y.name.toList == z.name.toList) = false by simpa using hs0]; rfl)
abbrev wW (l : List Ch) (z : Sm) : Ct := ⟨55,[(dL 5 dy bO l),(ut z)],false,(i6 (aK l z.name))⟩
abbrev jS (l : List Ch) (z : Sm) : Lp (Nat) := mB [0,1,7,8] 0 (fun (i : Nat) => ⟨[(0,(dL 5 dy bO l)),(1,(ut z)),(7,(i6 (l.length : Int))),(8,(i6 (i : Int)))],[]⟩) (fun (i : Nat) => i ≤ l.length∧∀ q,q < i → po l z.name q = false) (fun (i : Nat) => l.length - i)
theorem vI (l : List Ch) (z : Sm) (hl : l.length ≤ 9223372036854775807) : CC (wW l z) := by
 refine ai.vc (V := TT 4 (GO (jS l z) 0 (∀ i,(jS l z).inv i → TT 1 (CD ((i : Int) < (l.length : Int)) (TT 5 (IX (i : Int) l.length∧TT 1 (CC (y3 (l.getD i bO) z)∧CB (decide ((l.getD i bO).frm = -1) && ((l.getD i bO).name.toList == z.name.toList)) (TT 3 ((i : Int) = (aK l z.name)∧True)) (W6 ((i + 1 : Nat) : Int)∧TT 1 (AG (jS l z) i (i + 1)))))) (TT 2 ((-1) = (aK l z.name)∧True)))))) (.l (jS l z) 0 (fun i => .b 9 (.w 4 [(5,(y3 (l.getD i bO) z).O)] <| .b 16 (.e) (.w 6 [(0,.val (i6 ((i + 1 : Nat) : Int)))] <| .e)) (.e))) Try.func55 rfl rfl rfl (by kernel_rfl) ?_
 refine tt ⟨rfl,⟨by omega,fun q hq => by omega⟩,?_⟩
 intro i hinv
 obtain ⟨hi,h3⟩ := hinv
 refine tt (cd (fun hc9 => ?_) (fun hc9 => ?_))
 · refine tt ⟨ix,tt ⟨(sQ (l.getD i bO) z),⟨fun hc16 => ?_,fun hc16 => ?_⟩⟩⟩
   · refine tt ⟨?_,oK⟩
     first | exact (a4 (f := po l z.name) hc16 h3 (by omega)).symm | exact (a9 (f := po l z.name) (fun q hq => h3 q (by omega))).symm
   · refine ⟨w6,tt ⟨(i + 1),rfl,?_,(?_ : l.length - (i + 1) < l.length - i)⟩⟩
     · exact ⟨by omega,cB h3 hc16⟩
     · omega
 · refine tt ⟨?_,oK⟩
   first | exact (a4 (f := po l z.name) hc16 h3 (by omega)).symm | exact (a9 (f := po l z.name) (fun q hq => h3 q (by omega))).symm
abbrev wX (l : List Sm) (z : Sm) : Ct := ⟨51,[(dL 2 b6 aB l),(uu z)],false,(i6 (au l z.name))⟩
abbrev jT (l : List Sm) (z : Sm) : Lp (Nat) := mB [0,1,7,8] 0 (fun (i : Nat) => ⟨[(0,(dL 2 b6 aB l)),(1,(uu z)),(7,(i6 (l.length : Int))),(8,(i6 (i : Int)))],[]⟩) (fun (i : Nat) => i ≤ l.length∧∀ q,q < i → qJ l z.name q = false) (fun (i : Nat) => l.length - i)
theorem vJ (l : List Sm) (z : Sm) (hl : l.length ≤ 9223372036854775807) : CC (wX l z) := by
 refine ai.vc (V := TT 4 (GO (jT l z) 0 (∀ i,(jT l z).inv i → TT 1 (CD ((i : Int) < (l.length : Int)) (TT 5 (IX (i : Int) l.length∧TT 1 (CC (y4 (l.getD i aB) z)∧CB ((l.getD i aB).name.toList == z.name.toList) (TT 3 ((i : Int) = (au l z.name)∧True)) (W6 ((i + 1 : Nat) : Int)∧TT 1 (AG (jT l z) i (i + 1)))))) (TT 2 ((-1) = (au l z.name)∧True)))))) (.l (jT l z) 0 (fun i => .b 9 (.w 4 [(5,(y4 (l.getD i aB) z).O)] <| .b 16 (.e) (.w 6 [(0,.val (i6 ((i + 1 : Nat) : Int)))] <| .e)) (.e))) Try.func51 rfl rfl rfl (by kernel_rfl) ?_
 refine tt ⟨rfl,⟨by omega,fun q hq => by omega⟩,?_⟩
 intro i hinv
 obtain ⟨hi,h3⟩ := hinv
 refine tt (cd (fun hc9 => ?_) (fun hc9 => ?_))
 · refine tt ⟨ix,tt ⟨(qK (l.getD i aB) z),⟨fun hc16 => ?_,fun hc16 => ?_⟩⟩⟩
   · refine tt ⟨?_,oK⟩
     first | exact (a4 (f := qJ l z.name) hc16 h3 (by omega)).symm | exact (a9 (f := qJ l z.name) (fun q hq => h3 q (by omega))).symm
   · refine ⟨w6,tt ⟨(i + 1),rfl,?_,(?_ : l.length - (i + 1) < l.length - i)⟩⟩
     · exact ⟨by omega,cB h3 hc16⟩
     · omega
 · refine tt ⟨?_,oK⟩
   first | exact (a4 (f := qJ l z.name) hc16 h3 (by omega)).symm | exact (a9 (f := qJ l z.name) (fun q hq => h3 q (by omega))).symm
abbrev uw (l : List Ch) (z : Sm) : Ct := ⟨45,[(dL 5 dy bO l),(ut z)],true,(.tup [(.agg [(dS ((fx l (aK l z.name)).name)),(i6 ((fx l (aK l z.name)).w)),(i6 ((fx l (aK l z.name)).cap)),(i6 ((fx l (aK l z.name)).frm)),(i6 ((fx l (aK l z.name)).dst))]),(i6 (aK l z.name))])⟩
theorem rM (l : List Ch) (z : Sm) (hl : l.length ≤ 9223372036854775807) : CC (uw l z) := by
 refine ai.vc (V := TT 4 (CC (wW l z)∧TT 3 (CD ((aK l z.name) < 0) (TT 7 ((e0 = ((fx l (aK l z.name)).name)∧(0 : Int) = ((fx l (aK l z.name)).w)∧(0 : Int) = ((fx l (aK l z.name)).cap)∧(0 : Int) = ((fx l (aK l z.name)).frm)∧(0 : Int) = ((fx l (aK l z.name)).dst)∧True)∧(aK l z.name) = (aK l z.name)∧True)) (TT 2 (IX (aK l z.name) l.length∧TT 6 ((((l.getD ((aK l z.name).toNat) bO).name) = ((fx l (aK l z.name)).name)∧((l.getD ((aK l z.name).toNat) bO).w) = ((fx l (aK l z.name)).w)∧((l.getD ((aK l z.name).toNat) bO).cap) = ((fx l (aK l z.name)).cap)∧((l.getD ((aK l z.name).toNat) bO).frm) = ((fx l (aK l z.name)).frm)∧((l.getD ((aK l z.name).toNat) bO).dst) = ((fx l (aK l z.name)).dst)∧True)∧(aK l z.name) = (aK l z.name)∧True)))))) (.w 1 [(2,(wW l z).O)] <| .b 12 (.e) (.e)) Try.func45 rfl rfl rfl (by kernel_rfl) ?_
 refine tt ⟨(vI l z om),tt (cd (fun hc12 => ?_) (fun hc12 => ?_))⟩
 · refine tt ⟨⟨?_,?_,?_,?_,?_,oK⟩,rfl,oK⟩
   all_goals (all_goals (first | rfl | (rw [rK (by omega)]; done) | (rw [pp (by omega)])))
 · have hlt : aK l z.name < l.length := fU
   refine tt ⟨ix,tt ⟨⟨?_,?_,?_,?_,?_,oK⟩,rfl,oK⟩⟩
   all_goals (all_goals (first | rfl | (rw [rK (by omega)]; done) | (rw [pp (by omega)])))
abbrev uz (l : List Sm) (z : Sm) : Ct := ⟨38,[(dL 2 b6 aB l),(uu z)],true,(.tup [(.agg [(dS ((cj l (au l z.name)).name)),(LI ((cj l (au l z.name)).words))]),(i6 (au l z.name))])⟩
theorem rN (l : List Sm) (z : Sm) (hl : l.length ≤ 9223372036854775807) : CC (uz l z) := by
 refine ai.vc (V := TT 4 (CC (wX l z)∧TT 3 (CD ((au l z.name) < 0) (TT 1 ((True∧(e0 = ((cj l (au l z.name)).name)∧((cj l (au l z.name)).words) = []∧True))∧TT 5 ((((cj l (au l z.name)).name) = ((cj l (au l z.name)).name)∧((cj l (au l z.name)).words).map (af .i64) = ((cj l (au l z.name)).words).map (af .i64)∧True)∧(au l z.name) = (au l z.name)∧True))) (TT 2 (IX (au l z.name) l.length∧TT 6 ((((l.getD ((au l z.name).toNat) aB).name) = ((cj l (au l z.name)).name)∧((l.getD ((au l z.name).toNat) aB).words).map (af .i64) = ((cj l (au l z.name)).words).map (af .i64)∧True)∧(au l z.name) = (au l z.name)∧True)))))) (.w 1 [(2,(wX l z).O)] <| .b 12 (.w 4 [(0,.val (.agg [(dS ((cj l (au l z.name)).name)),(LI ((cj l (au l z.name)).words))]))] <| .e) (.e)) Try.func38 rfl rfl rfl (by kernel_rfl) ?_
 refine tt ⟨(vJ l z om),tt (cd (fun hc12 => ?_) (fun hc12 => ?_))⟩
 · exact tt ⟨⟨oK,(by rw [rL (by omega)]; exact ⟨rfl,rfl,oK⟩)⟩,tt ⟨⟨rfl,rfl,oK⟩,rfl,oK⟩⟩
 · have hlt : au l z.name < l.length := fU
   refine tt ⟨ix,tt ⟨⟨?_,(congrArg _ (?_ : ((l.getD ((au l z.name).toNat) aB).words) = ((cj l (au l z.name)).words))),oK⟩,rfl,oK⟩⟩
   all_goals (all_goals (first | rfl | (rw [rL (by omega)]; done) | (rw [fy (by omega)])))
abbrev y6 (a b : List Int) : Ct := ⟨39,[(LI a),(LI b)],false,(i6 (bE a b))⟩
abbrev jU (a : List Int) (b : List Int) : Lp (Nat) := mB [0,1,10,11] 0 (fun (i : Nat) => ⟨[(0,(LI a)),(1,(LI b)),(10,(i6 (((min a.length b.length) : Nat) : Int))),(11,(i6 (i : Int)))],[]⟩) (fun (i : Nat) => i ≤ min a.length b.length∧∀ q,q < i → gf a b q = false) (fun (i : Nat) => min a.length b.length - i)
theorem vK (a b : List Int) (ha : a.length ≤ 9223372036854775807) : CC (y6 a b) := by
 refine ai.vc (V := TT 5 ((True∧(si (a.length : Int) (b.length : Int)) = (((min a.length b.length) : Nat) : Int))∧TT 1 (GO (jU a b) 0 (∀ i,(jU a b).inv i → TT 1 (CD ((i : Int) < (((min a.length b.length) : Nat) : Int)) (TT 4 (IX (i : Int) a.length∧TT 3 (IX (i : Int) b.length∧TT 2 (CN ((a.getD i 0) = (b.getD i 0)) (TT 3 ((i : Int) = (bE a b)∧True)) (W6 ((i + 1 : Nat) : Int)∧TT 1 (AG (jU a b) i (i + 1))))))) (TT 2 ((-1) = (bE a b)∧True))))))) (.w 1 [(4,.val (i6 (((min a.length b.length) : Nat) : Int)))] <| .l (jU a b) 0 (fun i => .b 12 (.b 22 (.e) (.w 6 [(0,.val (i6 ((i + 1 : Nat) : Int)))] <| .e)) (.e))) Try.func39 rfl rfl rfl (by kernel_rfl) ?_
 refine tt ⟨⟨oK,(by unfold si; split <;> omega)⟩,tt ⟨rfl,⟨by omega,fun q hq => by omega⟩,?_⟩⟩
 intro i hinv
 obtain ⟨hi,h3⟩ := hinv
 refine tt (cd (fun hc12 => ?_) (fun hc12 => ?_))
 · refine tt ⟨ix,tt ⟨ix,tt (cn (fun hc22 => ?_) (fun hc22 => ?_))⟩⟩
   · refine tt ⟨?_,oK⟩
     first | exact (a4 (f := gf a b) (by unfold gf; rw [decide_eq_false hc22]; rfl) h3 (by omega)).symm | exact (a9 (f := gf a b) (fun q hq => h3 q (by omega))).symm
   · refine ⟨w6,tt ⟨(i + 1),rfl,?_,(?_ : min a.length b.length - (i + 1) < min a.length b.length - i)⟩⟩
     · exact ⟨by omega,cB h3 (by unfold gf; rw [decide_eq_true hc22]; rfl)⟩
     · omega
 · refine tt ⟨?_,oK⟩
   first | exact (a4 (f := gf a b) (by unfold gf; rw [decide_eq_false hc22]; rfl) h3 (by omega)).symm | exact (a9 (f := gf a b) (fun q hq => h3 q (by omega))).symm
abbrev x5 (a b : List Sm) : Ct := ⟨21,[(dL 2 b6 aB a),(dL 2 b6 aB b)],false,(.tup [(dS ((aG a b).name)),(i6 ((aG a b).pos)),(dB ((aG a b).is))])⟩
abbrev dg (a : List Sm) (b : List Sm) : Lp (Nat) := mB [0,1,15,16,17] 0 (fun (i : Nat) => ⟨[(0,(dL 2 b6 aB a)),(1,(dL 2 b6 aB b)),(15,(dL 2 b6 aB a)),(16,(i6 (a.length : Int))),(17,(i6 (i : Int)))],[]⟩) (fun (i : Nat) => i ≤ a.length∧∀ q,q < i → cz a b q = false) (fun (i : Nat) => a.length - i)
theorem mJ (a b : List Sm) (ha : a.length ≤ 9223372036854775807) (hb : b.length ≤ 9223372036854775807) (hwa : ∀ i,(a.getD i aB).words.length ≤ 9223372036854775807) : CC (x5 a b) := by
 refine ai.vc (V := TT 6 (GO (dg a b) 0 (∀ i,(dg a b).inv i → TT 1 (CD ((i : Int) < (a.length : Int)) (TT 1 (IX (i : Int) a.length∧TT 8 (CC (uz b (a.getD i aB))∧TT 8 (CC (uz a (a.getD i aB))∧TT 6 (CS ((au a (a.getD i aB).name) = (i : Int)) (TT 3 ((True∧(!decide ((au a (a.getD i aB).name) = (i : Int))) = false)∧TT 3 (CD ((au b (a.getD i aB).name) < 0) (W6 ((i + 1 : Nat) : Int)∧TT 1 (AG (dg a b) i (i + 1))) (TT 4 (CC (y6 ((a.getD i aB).words) ((cj b (au b (a.getD i aB).name)).words))∧TT 3 (CD ((bE ((a.getD i aB).words) ((cj b (au b (a.getD i aB).name)).words)) ≥ 0) (TT 9 ((((a.getD i aB).name) = ((aG a b).name)∧(bE ((a.getD i aB).words) ((cj b (au b (a.getD i aB).name)).words)) = ((aG a b).pos)∧false = ((aG a b).is)∧True)∧(True∧True∧True∧True))) (W6 ((i + 1 : Nat) : Int)∧TT 1 (AG (dg a b) i (i + 1))))))))) (TT 3 ((True∧(!decide ((au a (a.getD i aB).name) = (i : Int))) = true)∧TT 3 (W6 ((i + 1 : Nat) : Int)∧TT 1 (AG (dg a b) i (i + 1)))))))))) (TT 6 ((e0 = ((aG a b).name)∧(0 : Int) = ((aG a b).pos)∧true = ((aG a b).is)∧True)∧(True∧True∧True∧True))))))) (.l (dg a b) 0 (fun i => .b 18 (.f 4 0 <| .w 5 [(2,(uz b (a.getD i aB)).O)] <| .w 6 [(2,(uz a (a.getD i aB)).O)] <| .s 7 ((au a (a.getD i aB).name) = (i : Int)) (.w 7 [(3,.val (dB false))] <| .b 41 (.w 11 [(0,.val (i6 ((i + 1 : Nat) : Int)))] <| .e) (.w 8 [(4,(y6 ((a.getD i aB).words) ((cj b (au b (a.getD i aB).name)).words)).O)] <| .b 48 (.e) (.w 11 [(0,.val (i6 ((i + 1 : Nat) : Int)))] <| .e))) (.w 7 [(3,.val (dB true))] <| .w 11 [(0,.val (i6 ((i + 1 : Nat) : Int)))] <| .e)) (.e))) Try.func21 rfl rfl rfl (by kernel_rfl) ?_
 refine tt ⟨rfl,⟨by omega,fun q hq => by omega⟩,?_⟩
 intro i hinv
 obtain ⟨hi,h3⟩ := hinv
 refine tt (cd (fun hc18 => ?_) (fun hc18 => ?_))
 · refine tt ⟨ix,tt ⟨(rN b (a.getD i aB) hb),tt ⟨(rN a (a.getD i aB) ha),tt ⟨fun hs0 => ?_,fun hs0 => ?_⟩⟩⟩⟩
   · refine tt ⟨(nF hs0),tt (cd (fun hc41 => ?_) (fun hc41 => ?_))⟩
     · refine ⟨w6,tt ⟨(i + 1),rfl,?_,(?_ : a.length - (i + 1) < a.length - i)⟩⟩
       · exact ⟨by omega,cB h3 (by first | exact ip (by first | exact hs0 | exact hs1 | assumption) | exact eN (by assumption) | exact eO (by assumption))⟩
       · omega
     · refine tt ⟨(vK ((a.getD i aB).words) ((cj b (au b (a.getD i aB).name)).words) (hwa i)),tt (cd (fun hc48 => ?_) (fun hc48 => ?_))⟩
       · refine tt ⟨⟨?_,?_,?_,oK⟩,⟨oK,oK,oK,oK⟩⟩
         all_goals (all_goals (first | (rw [io (fun q hq => h3 q (by omega))]; done) | (rw [lk (i := i) (by omega) (f5 (by omega) (by omega) (by omega)) h3]; rfl)))
       · refine ⟨w6,tt ⟨(i + 1),rfl,?_,(?_ : a.length - (i + 1) < a.length - i)⟩⟩
         · exact ⟨by omega,cB h3 (by first | exact ip (by first | exact hs0 | exact hs1 | assumption) | exact eN (by assumption) | exact eO (by assumption))⟩
         · omega
   · refine tt ⟨(nT hs0),tt ⟨w6,tt ⟨(i + 1),rfl,?_,(?_ : a.length - (i + 1) < a.length - i)⟩⟩⟩
     · exact ⟨by omega,cB h3 (by first | exact ip (by first | exact hs0 | exact hs1 | assumption) | exact eN (by assumption) | exact eO (by assumption))⟩
     · omega
 · refine tt ⟨⟨?_,?_,?_,oK⟩,⟨oK,oK,oK,oK⟩⟩
   all_goals (all_goals (first | (rw [io (fun q hq => h3 q (by omega))]; done) | (rw [lk (i := i) (by omega) (f5 (by omega) (by omega) (by omega)) h3]; rfl)))
abbrev wY (a b : List Sm) : Ct := ⟨22,[(dL 2 b6 aB a),(dL 2 b6 aB b),(.fn (.func 23) [] [])],false,(dB (iq a b))⟩
abbrev jV (a : List Sm) (b : List Sm) : Lp (Nat) := mB [1,2,15,16,17] 0 (fun (i : Nat) => ⟨[(1,(dL 2 b6 aB b)),(2,(.fn (.func 23) [] [])),(15,(dL 2 b6 aB a)),(16,(i6 (a.length : Int))),(17,(i6 (i : Int)))],[]⟩) (fun (i : Nat) => i ≤ a.length∧∀ q,q < i → ll a b q = true) (fun (i : Nat) => a.length - i)
theorem vL (a b : List Sm) (ha : a.length ≤ 9223372036854775807) : CC (wY a b) := by
 refine ai.vc (V := TT 6 (CN ((a.length : Int) = (b.length : Int)) (TT 2 (false = (iq a b)∧True)) (TT 3 (GO (jV a b) 0 (∀ i,(jV a b).inv i → TT 1 (CD ((i : Int) < (a.length : Int)) (TT 1 (IX (i : Int) a.length∧TT 6 (IX (i : Int) b.length∧TT 6 (CC (y5 (a.getD i aB) (b.getD i aB))∧TT 1 (CB (!(((a.getD i aB).name.toList == (b.getD i aB).name.toList) && decide ((a.getD i aB).words.length = (b.getD i aB).words.length))) (TT 2 (false = (iq a b)∧True)) (W6 ((i + 1 : Nat) : Int)∧TT 1 (AG (jV a b) i (i + 1)))))))) (TT 2 (true = (iq a b)∧True)))))))) (.b 14 (.e) (.l (jV a b) 0 (fun i => .b 18 (.w 7 [(3,(y5 (a.getD i aB) (b.getD i aB)).O)] <| .b 30 (.e) (.w 9 [(0,.val (i6 ((i + 1 : Nat) : Int)))] <| .e)) (.e)))) Try.func22 rfl rfl rfl (by kernel_rfl) ?_
 refine tt (cn (fun hc14 => ?_) (fun hc14 => ?_))
 · refine tt ⟨?_,oK⟩
   first | exact (nz (by omega)).symm | exact (jQ (i := i) (by omega) (by rw [Bool.not_eq_eq_eq_not,Bool.not_true] at hc30; exact hc30)).symm | exact (jR (by omega) (fun q hq => h3 q (by omega))).symm
 · refine tt ⟨rfl,⟨by omega,fun q hq => by omega⟩,?_⟩
   intro i hinv
   obtain ⟨hi,h3⟩ := hinv
   refine tt (cd (fun hc18 => ?_) (fun hc18 => ?_))
   · refine tt ⟨ix,tt ⟨ix,tt ⟨(uv (a.getD i aB) (b.getD i aB)),tt ⟨fun hc30 => ?_,fun hc30 => ?_⟩⟩⟩⟩
     · refine tt ⟨?_,oK⟩
       first | exact (nz (by omega)).symm | exact (jQ (i := i) (by omega) (by rw [Bool.not_eq_eq_eq_not,Bool.not_true] at hc30; exact hc30)).symm | exact (jR (by omega) (fun q hq => h3 q (by omega))).symm
     · refine ⟨w6,tt ⟨(i + 1),rfl,?_,(?_ : a.length - (i + 1) < a.length - i)⟩⟩
       · exact ⟨by omega,cB h3 (by unfold ll; simpa using hc30)⟩
       · omega
   · refine tt ⟨?_,oK⟩
     first | exact (nz (by omega)).symm | exact (jQ (i := i) (by omega) (by rw [Bool.not_eq_eq_eq_not,Bool.not_true] at hc30; exact hc30)).symm | exact (jR (by omega) (fun q hq => h3 q (by omega))).symm
abbrev uA (a b : List Sm) : Ct := ⟨10,[(dL 2 b6 aB a),(dL 2 b6 aB b)],false,(dB (eM a b))⟩
theorem cJ (a b : List Sm) (ha : a.length ≤ 9223372036854775807) (hb : b.length ≤ 9223372036854775807) (hwa : ∀ i,(a.getD i aB).words.length ≤ 9223372036854775807) : CC (uA a b) := by
 refine ai.vc (V := TT 3 (CC (x5 a b)∧TT 7 (CS (((aG a b).is) = true) (TT 1 ((True∧((aG a b).is) = true)∧TT 2 (CC (wY a b)∧TT 3 ((iq a b) = (eM a b)∧True)))) (TT 1 ((True∧((aG a b).is) = false)∧TT 6 (false = (eM a b)∧True)))))) (.w 1 [(2,(x5 a b).O)] <| .s 2 (((aG a b).is) = true) (.w 2 [(1,.val (dB true)),(4,(wY a b).O)] <| .e) (.w 2 [(1,.val (dB false))] <| .e)) Try.func10 rfl rfl rfl (by kernel_rfl) ?_
 refine tt ⟨(mJ a b ha hb hwa),tt ⟨fun hs0 => ?_,fun hs0 => ?_⟩⟩
 · refine tt ⟨(bT hs0),tt ⟨(vL a b ha),tt ⟨?_,oK⟩⟩⟩
   first | (rw [ny (by simpa using hs0)]) | (rw [ur (by simpa using hs0)]; rfl)
 · refine tt ⟨(bF hs0),tt ⟨?_,oK⟩⟩
   first | (rw [ny (by simpa using hs0)]) | (rw [ur (by simpa using hs0)]; rfl)
end Go.Proofs.Ytgmpoenfoacofaa
