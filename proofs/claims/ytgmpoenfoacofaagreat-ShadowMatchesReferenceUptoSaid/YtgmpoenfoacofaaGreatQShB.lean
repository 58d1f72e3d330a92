/-
  Package shadow: first elements, differences, agreement.
-/
import Derived.Test.YtgmpoenfoacofaaGreatQNeJ
import Derived.Test.YtgmpoenfoacofaaGreatQShA
namespace Go.Proofs.YtgmpoenfoacofaaGreat
open Go.RowKit
set_option linter.unusedVariables false
set_option linter.unusedSimpArgs false
abbrev Fd (z : Sm) : D := (.fn (.func 61) [] [(.iptr [(.str z.name),(.sl 1 (ae .i64) 0 z.words)] 0)])
abbrev Fe (z : Sm) : D := (.fn (.func 65) [] [(.iptr [(.str z.name),(.sl 1 (ae .i64) 0 z.words)] 0)])
set_option maxRecDepth 100000
abbrev Lf (h : Ch) (z : Sm) : Ct := ⟨61,[(.agg [(dS h.name),(i6 h.w),(i6 h.cap),(i6 h.frm),(i6 h.dst)]),(.iptr [(.str z.name),(.sl 1 (ae .i64) 0 z.words)] 0)],false,(dB (decide (h.frm = -1) && (h.name.toList == z.name.toList)))⟩
theorem C9 (h : Ch) (z : Sm) : CC (Lf h z) := by
 refine af.vc (V := TT 2 (CS (h.frm = (-1)) (TT 3 ((True∧(decide (h.frm = (-1))) = true)∧TT 8 ((h.name.toList == z.name.toList) = (decide (h.frm = -1) && (h.name.toList == z.name.toList))∧True))) (TT 3 ((True∧(decide (h.frm = (-1))) = false)∧TT 8 (false = (decide (h.frm = -1) && (h.name.toList == z.name.toList))∧True))))) (.s 1 (h.frm = (-1)) (.w 1 [(3,.val (dB true))] <| .e) (.w 1 [(3,.val (dB false))] <| .e)) Tryz.func61 rfl rfl rfl (by kernel_rfl) ?_
 refine tt ⟨fun hs0 => ?_,fun hs0 => ?_⟩
 · refine tt ⟨(vT hs0),tt ⟨?_,oK⟩⟩
   first | (rw [decide_eq_true hs0]; rfl) | (rw [decide_eq_false hs0]; rfl)
 · refine tt ⟨(vF hs0),tt ⟨?_,oK⟩⟩
   first | (rw [decide_eq_true hs0]; rfl) | (rw [decide_eq_false hs0]; rfl)
abbrev Lg (y z : Sm) : Ct := ⟨65,[(.agg [(dS y.name),(LI y.words)]),(.iptr [(.str z.name),(.sl 1 (ae .i64) 0 z.words)] 0)],false,(dB (y.name.toList == z.name.toList))⟩
theorem Ai (y z : Sm) : CC (Lg y z) := by
 refine af.vc (V := TT 9 ((y.name.toList == z.name.toList) = (y.name.toList == z.name.toList)∧True)) (.e) Tryz.func65 rfl rfl rfl (by kernel_rfl) ?_
 exact tt ⟨rfl,oK⟩
abbrev Lh (y z : Sm) : Ct := ⟨44,[(.agg [(dS y.name),(LI y.words)]),(.agg [(dS z.name),(LI z.words)])],false,(dB ((y.name.toList == z.name.toList) && decide (y.words.length = z.words.length)))⟩
theorem Ff (y z : Sm) : CC (Lh y z) := by
 refine af.vc (V := TT 3 (CS ((y.name.toList == z.name.toList) = true) (TT 5 ((True∧(y.name.toList == z.name.toList) = true)∧TT 10 (((y.words.length : Int) == (z.words.length : Int)) = ((y.name.toList == z.name.toList) && decide (y.words.length = z.words.length))∧True))) (TT 5 ((True∧(y.name.toList == z.name.toList) = false)∧TT 10 (false = ((y.name.toList == z.name.toList) && decide (y.words.length = z.words.length))∧True))))) (.s 1 ((y.name.toList == z.name.toList) = true) (.w 1 [(5,.val (dB true))] <| .e) (.w 1 [(5,.val (dB false))] <| .e)) Tryz.func44 rfl rfl rfl (by kernel_rfl) ?_
 refine tt ⟨fun hs0 => ?_,fun hs0 => ?_⟩
 · refine tt ⟨(bT hs0),tt ⟨?_,oK⟩⟩
   first | (rw [show (y.name.toList == z.name.toList) = true from hs0,Bool.true_and]; exact decide_eq_decide.2 (by omega)) | (rw [show (y.name.toList == z.name.toList) = false by simpa using hs0]; rfl)
 · refine tt ⟨(bF hs0),tt ⟨?_,oK⟩⟩
   first | (rw [show (y.name.toList == z.name.toList) = true from hs0,Bool.true_and]; exact decide_eq_decide.2 (by omega)) | (rw [show (y.name.toList == z.name.toList) = false by simpa using hs0]; rfl)
abbrev Ix (l : List Ch) (z : Sm) : Ct := ⟨74,[(dL 5 eB bi l),(Fd z)],false,(i6 (aR l z.name))⟩
abbrev si (l : List Ch) (z : Sm) : Lp (Nat) := f6 [0,1,7,8] 0 (fun (i : Nat) => ⟨[(0,(dL 5 eB bi l)),(1,(Fd z)),(7,(i6 (l.length : Int))),(8,(i6 (i : Int)))],[]⟩) (fun (i : Nat) => i ≤ l.length∧∀ q,q < i → k9 l z.name q = false) (fun (i : Nat) => l.length - i)
theorem GM (l : List Ch) (z : Sm) (hl : l.length ≤ 9223372036854775807) : CC (Ix l z) := by
 refine af.vc (V := TT 4 (GO (si l z) 0 (∀ i,(si l z).inv i → TT 1 (CD ((i : Int) < (l.length : Int)) (TT 5 (IX (i : Int) l.length∧TT 1 (CC (Lf (l.getD i bi) z)∧CB (decide ((l.getD i bi).frm = -1) && ((l.getD i bi).name.toList == z.name.toList)) (TT 3 ((i : Int) = (aR l z.name)∧True)) (W6 ((i + 1 : Nat) : Int)∧TT 1 (AG (si l z) i (i + 1)))))) (TT 2 ((-1) = (aR l z.name)∧True)))))) (.l (si l z) 0 (fun i => .b 9 (.w 4 [(5,(Lf (l.getD i bi) z).O)] <| .b 16 (.e) (.w 6 [(0,.val (i6 ((i + 1 : Nat) : Int)))] <| .e)) (.e))) Tryz.func74 rfl rfl rfl (by kernel_rfl) ?_
 refine tt ⟨rfl,⟨by omega,fun q hq => by omega⟩,?_⟩
 intro i hinv
 obtain ⟨hi,h3⟩ := hinv
 refine tt (cd (fun hc9 => ?_) (fun hc9 => ?_))
 · refine tt ⟨ix,tt ⟨(C9 (l.getD i bi) z),⟨fun hc16 => ?_,fun hc16 => ?_⟩⟩⟩
   · refine tt ⟨?_,oK⟩
     first | exact (bo (f := k9 l z.name) hc16 h3 (by omega)).symm | exact (bM (f := k9 l z.name) (fun q hq => h3 q (by omega))).symm
   · refine ⟨w6,tt ⟨(i + 1),rfl,?_,(?_ : l.length - (i + 1) < l.length - i)⟩⟩
     · exact ⟨by omega,bH h3 hc16⟩
     · omega
 · refine tt ⟨?_,oK⟩
   first | exact (bo (f := k9 l z.name) hc16 h3 (by omega)).symm | exact (bM (f := k9 l z.name) (fun q hq => h3 q (by omega))).symm
abbrev Iy (l : List Sm) (z : Sm) : Ct := ⟨81,[(dL 2 dZ aG l),(Fe z)],false,(i6 (aE l z.name))⟩
abbrev sj (l : List Sm) (z : Sm) : Lp (Nat) := f6 [0,1,7,8] 0 (fun (i : Nat) => ⟨[(0,(dL 2 dZ aG l)),(1,(Fe z)),(7,(i6 (l.length : Int))),(8,(i6 (i : Int)))],[]⟩) (fun (i : Nat) => i ≤ l.length∧∀ q,q < i → C8 l z.name q = false) (fun (i : Nat) => l.length - i)
theorem GN (l : List Sm) (z : Sm) (hl : l.length ≤ 9223372036854775807) : CC (Iy l z) := by
 refine af.vc (V := TT 4 (GO (sj l z) 0 (∀ i,(sj l z).inv i → TT 1 (CD ((i : Int) < (l.length : Int)) (TT 5 (IX (i : Int) l.length∧TT 1 (CC (Lg (l.getD i aG) z)∧CB ((l.getD i aG).name.toList == z.name.toList) (TT 3 ((i : Int) = (aE l z.name)∧True)) (W6 ((i + 1 : Nat) : Int)∧TT 1 (AG (sj l z) i (i + 1)))))) (TT 2 ((-1) = (aE l z.name)∧True)))))) (.l (sj l z) 0 (fun i => .b 9 (.w 4 [(5,(Lg (l.getD i aG) z).O)] <| .b 16 (.e) (.w 6 [(0,.val (i6 ((i + 1 : Nat) : Int)))] <| .e)) (.e))) Tryz.func81 rfl rfl rfl (by kernel_rfl) ?_
 refine tt ⟨rfl,⟨by omega,fun q hq => by omega⟩,?_⟩
 intro i hinv
 obtain ⟨hi,h3⟩ := hinv
 refine tt (cd (fun hc9 => ?_) (fun hc9 => ?_))
 · refine tt ⟨ix,tt ⟨(Ai (l.getD i aG) z),⟨fun hc16 => ?_,fun hc16 => ?_⟩⟩⟩
   · refine tt ⟨?_,oK⟩
     first | exact (bo (f := C8 l z.name) hc16 h3 (by omega)).symm | exact (bM (f := C8 l z.name) (fun q hq => h3 q (by omega))).symm
   · refine ⟨w6,tt ⟨(i + 1),rfl,?_,(?_ : l.length - (i + 1) < l.length - i)⟩⟩
     · exact ⟨by omega,bH h3 hc16⟩
     · omega
 · refine tt ⟨?_,oK⟩
   first | exact (bo (f := C8 l z.name) hc16 h3 (by omega)).symm | exact (bM (f := C8 l z.name) (fun q hq => h3 q (by omega))).symm
abbrev Fg (l : List Ch) (z : Sm) : Ct := ⟨60,[(dL 5 eB bi l),(Fd z)],true,(.tup [(.agg [(dS ((ld l (aR l z.name)).name)),(i6 ((ld l (aR l z.name)).w)),(i6 ((ld l (aR l z.name)).cap)),(i6 ((ld l (aR l z.name)).frm)),(i6 ((ld l (aR l z.name)).dst))]),(i6 (aR l z.name))])⟩
theorem BL (l : List Ch) (z : Sm) (hl : l.length ≤ 9223372036854775807) : CC (Fg l z) := by
 refine af.vc (V := TT 4 (CC (Ix l z)∧TT 3 (CD ((aR l z.name) < 0) (TT 7 ((e0 = ((ld l (aR l z.name)).name)∧(0 : Int) = ((ld l (aR l z.name)).w)∧(0 : Int) = ((ld l (aR l z.name)).cap)∧(0 : Int) = ((ld l (aR l z.name)).frm)∧(0 : Int) = ((ld l (aR l z.name)).dst)∧True)∧(aR l z.name) = (aR l z.name)∧True)) (TT 2 (IX (aR l z.name) l.length∧TT 6 ((((l.getD ((aR l z.name).toNat) bi).name) = ((ld l (aR l z.name)).name)∧((l.getD ((aR l z.name).toNat) bi).w) = ((ld l (aR l z.name)).w)∧((l.getD ((aR l z.name).toNat) bi).cap) = ((ld l (aR l z.name)).cap)∧((l.getD ((aR l z.name).toNat) bi).frm) = ((ld l (aR l z.name)).frm)∧((l.getD ((aR l z.name).toNat) bi).dst) = ((ld l (aR l z.name)).dst)∧True)∧(aR l z.name) = (aR l z.name)∧True)))))) (.w 1 [(2,(Ix l z).O)] <| .b 12 (.e) (.e)) Tryz.func60 rfl rfl rfl (by kernel_rfl) ?_
 refine tt ⟨(GM l z om),tt (cd (fun hc12 => ?_) (fun hc12 => ?_))⟩
 · refine tt ⟨⟨?_,?_,?_,?_,?_,oK⟩,rfl,oK⟩
   all_goals (all_goals (first | rfl | (rw [BI (by omega)]; done) | (rw [yR (by omega)])))
 · have hlt : aR l z.name < l.length := lR
   refine tt ⟨ix,tt ⟨⟨?_,?_,?_,?_,?_,oK⟩,rfl,oK⟩⟩
   all_goals (all_goals (first | rfl | (rw [BI (by omega)]; done) | (rw [yR (by omega)])))
abbrev Fh (l : List Sm) (z : Sm) : Ct := ⟨66,[(dL 2 dZ aG l),(Fe z)],true,(.tup [(.agg [(dS ((gz l (aE l z.name)).name)),(LI ((gz l (aE l z.name)).words))]),(i6 (aE l z.name))])⟩
theorem BM (l : List Sm) (z : Sm) (hl : l.length ≤ 9223372036854775807) : CC (Fh l z) := by
 refine af.vc (V := TT 4 (CC (Iy l z)∧TT 3 (CD ((aE l z.name) < 0) (TT 1 ((True∧(e0 = ((gz l (aE l z.name)).name)∧((gz l (aE l z.name)).words) = []∧True))∧TT 5 ((((gz l (aE l z.name)).name) = ((gz l (aE l z.name)).name)∧((gz l (aE l z.name)).words).map (ae .i64) = ((gz l (aE l z.name)).words).map (ae .i64)∧True)∧(aE l z.name) = (aE l z.name)∧True))) (TT 2 (IX (aE l z.name) l.length∧TT 6 ((((l.getD ((aE l z.name).toNat) aG).name) = ((gz l (aE l z.name)).name)∧((l.getD ((aE l z.name).toNat) aG).words).map (ae .i64) = ((gz l (aE l z.name)).words).map (ae .i64)∧True)∧(aE l z.name) = (aE l z.name)∧True)))))) (.w 1 [(2,(Iy l z).O)] <| .b 12 (.w 4 [(0,.val (.agg [(dS ((gz l (aE l z.name)).name)),(LI ((gz l (aE l z.name)).words))]))] <| .e) (.e)) Tryz.func66 rfl rfl rfl (by kernel_rfl) ?_
 refine tt ⟨(GN l z om),tt (cd (fun hc12 => ?_) (fun hc12 => ?_))⟩
 · exact tt ⟨⟨oK,(by rw [BJ (by omega)]; exact ⟨rfl,rfl,oK⟩)⟩,tt ⟨⟨rfl,rfl,oK⟩,rfl,oK⟩⟩
 · have hlt : aE l z.name < l.length := lR
   refine tt ⟨ix,tt ⟨⟨?_,(congrArg _ (?_ : ((l.getD ((aE l z.name).toNat) aG).words) = ((gz l (aE l z.name)).words))),oK⟩,rfl,oK⟩⟩
   all_goals (all_goals (first | rfl | (rw [BJ (by omega)]; done) | (rw [tT (by omega)])))
abbrev Li (a b : List Int) : Ct := ⟨67,[(LI a),(LI b)],false,(i6 (i3 a b))⟩
abbrev sm (a : List Int) (b : List Int) : Lp (Nat) := f6 [0,1,10,11] 0 (fun (i : Nat) => ⟨[(0,(LI a)),(1,(LI b)),(10,(i6 (((min a.length b.length) : Nat) : Int))),(11,(i6 (i : Int)))],[]⟩) (fun (i : Nat) => i ≤ min a.length b.length∧∀ q,q < i → jq a b q = false) (fun (i : Nat) => min a.length b.length - i)
theorem GP (a b : List Int) (ha : a.length ≤ 9223372036854775807) : CC (Li a b) := by
 refine af.vc (V := TT 5 ((True∧(uH (a.length : Int) (b.length : Int)) = (((min a.length b.length) : Nat) : Int))∧TT 1 (GO (sm a b) 0 (∀ i,(sm a b).inv i → TT 1 (CD ((i : Int) < (((min a.length b.length) : Nat) : Int)) (TT 4 (IX (i : Int) a.length∧TT 3 (IX (i : Int) b.length∧TT 2 (CN ((a.getD i 0) = (b.getD i 0)) (TT 3 ((i : Int) = (i3 a b)∧True)) (W6 ((i + 1 : Nat) : Int)∧TT 1 (AG (sm a b) i (i + 1))))))) (TT 2 ((-1) = (i3 a b)∧True))))))) (.w 1 [(4,.val (i6 (((min a.length b.length) : Nat) : Int)))] <| .l (sm a b) 0 (fun i => .b 12 (.b 22 (.e) (.w 6 [(0,.val (i6 ((i + 1 : Nat) : Int)))] <| .e)) (.e))) Tryz.func67 rfl rfl rfl (by kernel_rfl) ?_
 refine tt ⟨⟨oK,(by unfold uH; split <;> omega)⟩,tt ⟨rfl,⟨by omega,fun q hq => by omega⟩,?_⟩⟩
 intro i hinv
 obtain ⟨hi,h3⟩ := hinv
 refine tt (cd (fun hc12 => ?_) (fun hc12 => ?_))
 · refine tt ⟨ix,tt ⟨ix,tt (cn (fun hc22 => ?_) (fun hc22 => ?_))⟩⟩
   · refine tt ⟨?_,oK⟩
     first | exact (bo (f := jq a b) (by unfold jq; rw [decide_eq_false hc22]; rfl) h3 (by omega)).symm | exact (bM (f := jq a b) (fun q hq => h3 q (by omega))).symm
   · refine ⟨w6,tt ⟨(i + 1),rfl,?_,(?_ : min a.length b.length - (i + 1) < min a.length b.length - i)⟩⟩
     · exact ⟨by omega,bH h3 (by unfold jq; rw [decide_eq_true hc22]; rfl)⟩
     · omega
 · refine tt ⟨?_,oK⟩
   first | exact (bo (f := jq a b) (by unfold jq; rw [decide_eq_false hc22]; rfl) h3 (by omega)).symm | exact (bM (f := jq a b) (fun q hq => h3 q (by omega))).symm
abbrev JP (a b : List Sm) : Ct := ⟨40,[(dL 2 dZ aG a),(dL 2 dZ aG b)],false,(.tup [(dS ((dj a b).name)),(i6 ((dj a b).pos)),(dB ((dj a b).is))])⟩
abbrev gI (a : List Sm) (b : List Sm) : Lp (Nat) := f6 [0,1,15,16,17] 0 (fun (i : Nat) => ⟨[(0,(dL 2 dZ aG a)),(1,(dL 2 dZ aG b)),(15,(dL 2 dZ aG a)),(16,(i6 (a.length : Int))),(17,(i6 (i : Int)))],[]⟩) (fun (i : Nat) => i ≤ a.length∧∀ q,q < i → nx a b q = false) (fun (i : Nat) => a.length - i)
theorem v4 (a b : List Sm) (ha : a.length ≤ 9223372036854775807) (hb : b.length ≤ 9223372036854775807) (hwa : ∀ i,(a.getD i aG).words.length ≤ 9223372036854775807) : CC (JP a b) := by
 refine af.vc (V := TT 6 (GO (gI a b) 0 (∀ i,(gI a b).inv i → TT 1 (CD ((i : Int) < (a.length : Int)) (TT 1 (IX (i : Int) a.length∧TT 8 (CC (Fh b (a.getD i aG))∧TT 8 (CC (Fh a (a.getD i aG))∧TT 6 (CS ((aE a (a.getD i aG).name) = (i : Int)) (TT 3 ((True∧(!decide ((aE a (a.getD i aG).name) = (i : Int))) = false)∧TT 3 (CD ((aE b (a.getD i aG).name) < 0) (W6 ((i + 1 : Nat) : Int)∧TT 1 (AG (gI a b) i (i + 1))) (TT 4 (CC (Li ((a.getD i aG).words) ((gz b (aE b (a.getD i aG).name)).words))∧TT 3 (CD ((i3 ((a.getD i aG).words) ((gz b (aE b (a.getD i aG).name)).words)) ≥ 0) (TT 9 ((((a.getD i aG).name) = ((dj a b).name)∧(i3 ((a.getD i aG).words) ((gz b (aE b (a.getD i aG).name)).words)) = ((dj a b).pos)∧false = ((dj a b).is)∧True)∧(True∧True∧True∧True))) (W6 ((i + 1 : Nat) : Int)∧TT 1 (AG (gI a b) i (i + 1))))))))) (TT 3 ((True∧(!decide ((aE a (a.getD i aG).name) = (i : Int))) = true)∧TT 3 (W6 ((i + 1 : Nat) : Int)∧TT 1 (AG (gI a b) i (i + 1)))))))))) (TT 6 ((e0 = ((dj a b).name)∧(0 : Int) = ((dj a b).pos)∧true = ((dj a b).is)∧True)∧(True∧True∧True∧True))))))) (.l (gI a b) 0 (fun i => .b 18 (.f 4 0 <| .w 5 [(2,(Fh b (a.getD i aG)).O)] <| .w 6 [(2,(Fh a (a.getD i aG)).O)] <| .s 7 ((aE a (a.getD i aG).name) = (i : Int)) (.w 7 [(3,.val (dB false))] <| .b 41 (.w 11 [(0,.val (i6 ((i + 1 : Nat) : Int)))] <| .e) (.w 8 [(4,(Li ((a.getD i aG).words) ((gz b (aE b (a.getD i aG).name)).words)).O)] <| .b 48 (.e) (.w 11 [(0,.val (i6 ((i + 1 : Nat) : Int)))] <| .e))) (.w 7 [(3,.val (dB true))] <| .w 11 [(0,.val (i6 ((i + 1 : Nat) : Int)))] <| .e)) (.e))) Tryz.func40 rfl rfl rfl (by kernel_rfl) ?_
 refine tt ⟨rfl,⟨by omega,fun q hq => by omega⟩,?_⟩
 intro i hinv
 obtain ⟨hi,h3⟩ := hinv
 refine tt (cd (fun hc18 => ?_) (fun hc18 => ?_))
 · refine tt ⟨ix,tt ⟨(BM b (a.getD i aG) hb),tt ⟨(BM a (a.getD i aG) ha),tt ⟨fun hs0 => ?_,fun hs0 => ?_⟩⟩⟩⟩
   · refine tt ⟨(nF hs0),tt (cd (fun hc41 => ?_) (fun hc41 => ?_))⟩
     · refine ⟨w6,tt ⟨(i + 1),rfl,?_,(?_ : a.length - (i + 1) < a.length - i)⟩⟩
       · exact ⟨by omega,bH h3 (by first | exact lY (by first | exact hs0 | exact hs1 | assumption) | exact iK (by assumption) | exact j5 (by assumption))⟩
       · omega
     · refine tt ⟨(GP ((a.getD i aG).words) ((gz b (aE b (a.getD i aG).name)).words) (hwa i)),tt (cd (fun hc48 => ?_) (fun hc48 => ?_))⟩
       · refine tt ⟨⟨?_,?_,?_,oK⟩,⟨oK,oK,oK,oK⟩⟩
         all_goals (all_goals (first | (rw [tV (fun q hq => h3 q (by omega))]; done) | (rw [tU (i := i) (by omega) (po (by omega) (by omega) (by omega)) h3]; rfl)))
       · refine ⟨w6,tt ⟨(i + 1),rfl,?_,(?_ : a.length - (i + 1) < a.length - i)⟩⟩
         · exact ⟨by omega,bH h3 (by first | exact lY (by first | exact hs0 | exact hs1 | assumption) | exact iK (by assumption) | exact j5 (by assumption))⟩
         · omega
   · refine tt ⟨(nT hs0),tt ⟨w6,tt ⟨(i + 1),rfl,?_,(?_ : a.length - (i + 1) < a.length - i)⟩⟩⟩
     · exact ⟨by omega,bH h3 (by first | exact lY (by first | exact hs0 | exact hs1 | assumption) | exact iK (by assumption) | exact j5 (by assumption))⟩
     · omega
 · refine tt ⟨⟨?_,?_,?_,oK⟩,⟨oK,oK,oK,oK⟩⟩
   all_goals (all_goals (first | (rw [tV (fun q hq => h3 q (by omega))]; done) | (rw [tU (i := i) (by omega) (po (by omega) (by omega) (by omega)) h3]; rfl)))
abbrev Iz (a b : List Sm) : Ct := ⟨43,[(dL 2 dZ aG a),(dL 2 dZ aG b),(.fn (.func 44) [] [])],false,(dB (mu a b))⟩
abbrev sn (a : List Sm) (b : List Sm) : Lp (Nat) := f6 [1,2,15,16,17] 0 (fun (i : Nat) => ⟨[(1,(dL 2 dZ aG b)),(2,(.fn (.func 44) [] [])),(15,(dL 2 dZ aG a)),(16,(i6 (a.length : Int))),(17,(i6 (i : Int)))],[]⟩) (fun (i : Nat) => i ≤ a.length∧∀ q,q < i → pn a b q = true) (fun (i : Nat) => a.length - i)
theorem GQ (a b : List Sm) (ha : a.length ≤ 9223372036854775807) : CC (Iz a b) := by
 refine af.vc (V := TT 6 (CN ((a.length : Int) = (b.length : Int)) (TT 2 (false = (mu a b)∧True)) (TT 3 (GO (sn a b) 0 (∀ i,(sn a b).inv i → TT 1 (CD ((i : Int) < (a.length : Int)) (TT 1 (IX (i : Int) a.length∧TT 6 (IX (i : Int) b.length∧TT 6 (CC (Lh (a.getD i aG) (b.getD i aG))∧TT 1 (CB (!(((a.getD i aG).name.toList == (b.getD i aG).name.toList) && decide ((a.getD i aG).words.length = (b.getD i aG).words.length))) (TT 2 (false = (mu a b)∧True)) (W6 ((i + 1 : Nat) : Int)∧TT 1 (AG (sn a b) i (i + 1)))))))) (TT 2 (true = (mu a b)∧True)))))))) (.b 14 (.e) (.l (sn a b) 0 (fun i => .b 18 (.w 7 [(3,(Lh (a.getD i aG) (b.getD i aG)).O)] <| .b 30 (.e) (.w 9 [(0,.val (i6 ((i + 1 : Nat) : Int)))] <| .e)) (.e)))) Tryz.func43 rfl rfl rfl (by kernel_rfl) ?_
 refine tt (cn (fun hc14 => ?_) (fun hc14 => ?_))
 · refine tt ⟨?_,oK⟩
   first | exact (iL (by omega)).symm | exact (dF (i := i) (by omega) (by rw [Bool.not_eq_eq_eq_not,Bool.not_true] at hc30; exact hc30)).symm | exact (gA (by omega) (fun q hq => h3 q (by omega))).symm
 · refine tt ⟨rfl,⟨by omega,fun q hq => by omega⟩,?_⟩
   intro i hinv
   obtain ⟨hi,h3⟩ := hinv
   refine tt (cd (fun hc18 => ?_) (fun hc18 => ?_))
   · refine tt ⟨ix,tt ⟨ix,tt ⟨(Ff (a.getD i aG) (b.getD i aG)),tt ⟨fun hc30 => ?_,fun hc30 => ?_⟩⟩⟩⟩
     · refine tt ⟨?_,oK⟩
       first | exact (iL (by omega)).symm | exact (dF (i := i) (by omega) (by rw [Bool.not_eq_eq_eq_not,Bool.not_true] at hc30; exact hc30)).symm | exact (gA (by omega) (fun q hq => h3 q (by omega))).symm
     · refine ⟨w6,tt ⟨(i + 1),rfl,?_,(?_ : a.length - (i + 1) < a.length - i)⟩⟩
       · exact ⟨by omega,bH h3 (by unfold pn; simpa using hc30)⟩
       · omega
   · refine tt ⟨?_,oK⟩
     first | exact (iL (by omega)).symm | exact (dF (i := i) (by omega) (by rw [Bool.not_eq_eq_eq_not,Bool.not_true] at hc30; exact hc30)).symm | exact (gA (by omega) (fun q hq => h3 q (by omega))).symm
abbrev Da (a b : List Sm) : Ct := ⟨21,[(dL 2 dZ aG a),(dL 2 dZ aG b)],false,(dB (eO a b))⟩
theorem eL (a b : List Sm) (ha : a.length ≤ 9223372036854775807) (hb : b.length ≤ 9223372036854775807) (hwa : ∀ i,(a.getD i aG).words.length ≤ 9223372036854775807) : CC (Da a b) := by
 refine af.vc (V := TT 3 (CC (JP a b)∧TT 7 (CS (((dj a b).is) = true) (TT 1 ((True∧((dj a b).is) = true)∧TT 2 (CC (Iz a b)∧TT 3 ((mu a b) = (eO a b)∧True)))) (TT 1 ((True∧((dj a b).is) = false)∧TT 6 (false = (eO a b)∧True)))))) (.w 1 [(2,(JP a b).O)] <| .s 2 (((dj a b).is) = true) (.w 2 [(1,.val (dB true)),(4,(Iz a b).O)] <| .e) (.w 2 [(1,.val (dB false))] <| .e)) Tryz.func21 rfl rfl rfl (by kernel_rfl) ?_
 refine tt ⟨(v4 a b ha hb hwa),tt ⟨fun hs0 => ?_,fun hs0 => ?_⟩⟩
 · refine tt ⟨(bT hs0),tt ⟨(GQ a b ha),tt ⟨?_,oK⟩⟩⟩
   first | (rw [j6 (by simpa using hs0)]) | (rw [Fb (by simpa using hs0)]; rfl)
 · refine tt ⟨(bF hs0),tt ⟨?_,oK⟩⟩
   first | (rw [j6 (by simpa using hs0)]) | (rw [Fb (by simpa using hs0)]; rfl)
end Go.Proofs.YtgmpoenfoacofaaGreat
