/-
  Package shadow: first elements, differences, agreement.
-/
import Derived.Test.YtgmpoenfoacofaaGreatQNeJ
import Derived.Test.YtgmpoenfoacofaaGreatQShA
namespace Go.Proofs.YtgmpoenfoacofaaGreat
open Go.RowKit
set_option linter.unusedVariables false
set_option linter.unusedSimpArgs false
abbrev G7 (z : Sm) : D := (.fn (.func 61) [] [(.iptr [(.str z.name),(.sl 1 (ae .i64) 0 z.words)] 0)])
abbrev G8 (z : Sm) : D := (.fn (.func 65) [] [(.iptr [(.str z.name),(.sl 1 (ae .i64) 0 z.words)] 0)])
set_option maxRecDepth 100000
abbrev Ni (h : Ch) (z : Sm) : Ct := ⟨61,[(.agg [(dS h.name),(i6 h.w),(i6 h.cap),(i6 h.frm),(i6 h.dst)]),(.iptr [(.str z.name),(.sl 1 (ae .i64) 0 z.words)] 0)],false,(dB (decide (h.frm = -1) && (h.name.toList == z.name.toList)))⟩
theorem EZ (h : Ch) (z : Sm) : CC (Ni h z) := by
 refine af.vc (V := TT 2 (CS (h.frm = (-1)) (TT 3 ((True∧(decide (h.frm = (-1))) = true)∧TT 8 ((h.name.toList == z.name.toList) = (decide (h.frm = -1) && (h.name.toList == z.name.toList))∧True))) (TT 3 ((True∧(decide (h.frm = (-1))) = false)∧TT 8 (false = (decide (h.frm = -1) && (h.name.toList == z.name.toList))∧True))))) (.s 1 (h.frm = (-1)) (.w 1 [(3,.val (dB true))] <| .e) (.w 1 [(3,.val (dB false))] <| .e)) Tryz.func61 rfl rfl rfl (by kernel_rfl) ?_
 refine tt ⟨fun hs0 => ?_,fun hs0 => ?_⟩
 · refine tt ⟨(vT hs0),tt ⟨?_,oK⟩⟩
   first | (rw [decide_eq_true hs0]; rfl) | (rw [decide_eq_false hs0]; rfl)
 · refine tt ⟨(vF hs0),tt ⟨?_,oK⟩⟩
   first | (rw [decide_eq_true hs0]; rfl) | (rw [decide_eq_false hs0]; rfl)
abbrev Nj (y z : Sm) : Ct := ⟨65,[(.agg [(dS y.name),(LI y.words)]),(.iptr [(.str z.name),(.sl 1 (ae .i64) 0 z.words)] 0)],false,(dB (y.name.toList == z.name.toList))⟩
theorem BQ (y z : Sm) : CC (Nj y z) := by
 refine af.vc (V := TT 9 ((y.name.toList == z.name.toList) = (y.name.toList == z.name.toList)∧True)) (.e) Tryz.func65 rfl rfl rfl (by kernel_rfl) ?_
 exact tt ⟨rfl,oK⟩
abbrev Nk (y z : Sm) : Ct := ⟨44,[(.agg [(dS y.name),(LI y.words)]),(.agg [(dS z.name),(LI z.words)])],false,(dB ((y.name.toList == z.name.toList) && decide (y.words.length = z.words.length)))⟩
theorem G9 (y z : Sm) : CC (Nk y z) := by
 refine af.vc (V := TT 3 (CS ((y.name.toList == z.name.toList) = true) (TT 5 ((True∧(y.name.toList == z.name.toList) = true)∧TT 10 (((y.words.length : Int) == (z.words.length : Int)) = ((y.name.toList == z.name.toList) && decide (y.words.length = z.words.length))∧True))) (TT 5 ((True∧(y.name.toList == z.name.toList) = false)∧TT 10 (false = ((y.name.toList == z.name.toList) && decide (y.words.length = z.words.length))∧True))))) (.s 1 ((y.name.toList == z.name.toList) = true) (.w 1 [(5,.val (dB true))] <| .e) (.w 1 [(5,.val (dB false))] <| .e)) Tryz.func44 rfl rfl rfl (by kernel_rfl) ?_
 refine tt ⟨fun hs0 => ?_,fun hs0 => ?_⟩
 · refine tt ⟨(bT hs0),tt ⟨?_,oK⟩⟩
   first | (rw [show (y.name.toList == z.name.toList) = true from hs0,Bool.true_and]; exact decide_eq_decide.2 (by omega)) | (rw [show (y.name.toList == z.name.toList) = false by simpa using hs0]; rfl)
 · refine tt ⟨(bF hs0),tt ⟨?_,oK⟩⟩
   first | (rw [show (y.name.toList == z.name.toList) = true from hs0,Bool.true_and]; exact decide_eq_decide.2 (by omega)) | (rw [show (y.name.toList == z.name.toList) = false by simpa using hs0]; rfl)
abbrev Kv (l : List Ch) (z : Sm) : Ct := ⟨74,[(dL 5 ez aX l),(G7 z)],false,(i6 (aQ l z.name))⟩
abbrev tG (l : List Ch) (z : Sm) : Lp (Nat) := fG [0,1,7,8] 0 (fun (i : Nat) => ⟨[(0,(dL 5 ez aX l)),(1,(G7 z)),(7,(i6 (l.length : Int))),(8,(i6 (i : Int)))],[]⟩) (fun (i : Nat) => i ≤ l.length∧∀ q,q < i → kU l z.name q = false) (fun (i : Nat) => l.length - i)
theorem II (l : List Ch) (z : Sm) (hl : l.length ≤ 9223372036854775807) : CC (Kv l z) := by
 refine af.vc (V := TT 4 (GO (tG l z) 0 (∀ i,(tG l z).inv i → TT 1 (CD ((i : Int) < (l.length : Int)) (TT 5 (IX (i : Int) l.length∧TT 1 (CC (Ni (l.getD i aX) z)∧CB (decide ((l.getD i aX).frm = -1) && ((l.getD i aX).name.toList == z.name.toList)) (TT 3 ((i : Int) = (aQ l z.name)∧True)) (W6 ((i + 1 : Nat) : Int)∧TT 1 (AG (tG l z) i (i + 1)))))) (TT 2 ((-1) = (aQ l z.name)∧True)))))) (.l (tG l z) 0 (fun i => .b 9 (.w 4 [(5,(Ni (l.getD i aX) z).O)] <| .b 16 (.e) (.w 6 [(0,.val (i6 ((i + 1 : Nat) : Int)))] <| .e)) (.e))) Tryz.func74 rfl rfl rfl (by kernel_rfl) ?_
 refine tt ⟨rfl,⟨by omega,fun q hq => by omega⟩,?_⟩
 intro i hinv
 obtain ⟨hi,h3⟩ := hinv
 refine tt (cd (fun hc9 => ?_) (fun hc9 => ?_))
 · refine tt ⟨ix,tt ⟨(EZ (l.getD i aX) z),⟨fun hc16 => ?_,fun hc16 => ?_⟩⟩⟩
   · refine tt ⟨?_,oK⟩
     first | exact (bu (f := kU l z.name) hc16 h3 (by omega)).symm | exact (bV (f := kU l z.name) (fun q hq => h3 q (by omega))).symm
   · refine ⟨w6,tt ⟨(i + 1),rfl,?_,(?_ : l.length - (i + 1) < l.length - i)⟩⟩
     · exact ⟨by omega,br h3 hc16⟩
     · omega
 · refine tt ⟨?_,oK⟩
   first | exact (bu (f := kU l z.name) hc16 h3 (by omega)).symm | exact (bV (f := kU l z.name) (fun q hq => h3 q (by omega))).symm
abbrev Kw (l : List Sm) (z : Sm) : Ct := ⟨81,[(dL 2 ey aG l),(G8 z)],false,(i6 (aE l z.name))⟩
abbrev tH (l : List Sm) (z : Sm) : Lp (Nat) := fG [0,1,7,8] 0 (fun (i : Nat) => ⟨[(0,(dL 2 ey aG l)),(1,(G8 z)),(7,(i6 (l.length : Int))),(8,(i6 (i : Int)))],[]⟩) (fun (i : Nat) => i ≤ l.length∧∀ q,q < i → Al l z.name q = false) (fun (i : Nat) => l.length - i)
theorem IJ (l : List Sm) (z : Sm) (hl : l.length ≤ 9223372036854775807) : CC (Kw l z) := by
 refine af.vc (V := TT 4 (GO (tH l z) 0 (∀ i,(tH l z).inv i → TT 1 (CD ((i : Int) < (l.length : Int)) (TT 5 (IX (i : Int) l.length∧TT 1 (CC (Nj (l.getD i aG) z)∧CB ((l.getD i aG).name.toList == z.name.toList) (TT 3 ((i : Int) = (aE l z.name)∧True)) (W6 ((i + 1 : Nat) : Int)∧TT 1 (AG (tH l z) i (i + 1)))))) (TT 2 ((-1) = (aE l z.name)∧True)))))) (.l (tH l z) 0 (fun i => .b 9 (.w 4 [(5,(Nj (l.getD i aG) z).O)] <| .b 16 (.e) (.w 6 [(0,.val (i6 ((i + 1 : Nat) : Int)))] <| .e)) (.e))) Tryz.func81 rfl rfl rfl (by kernel_rfl) ?_
 refine tt ⟨rfl,⟨by omega,fun q hq => by omega⟩,?_⟩
 intro i hinv
 obtain ⟨hi,h3⟩ := hinv
 refine tt (cd (fun hc9 => ?_) (fun hc9 => ?_))
 · refine tt ⟨ix,tt ⟨(BQ (l.getD i aG) z),⟨fun hc16 => ?_,fun hc16 => ?_⟩⟩⟩
   · refine tt ⟨?_,oK⟩
     first | exact (bu (f := Al l z.name) hc16 h3 (by omega)).symm | exact (bV (f := Al l z.name) (fun q hq => h3 q (by omega))).symm
   · refine ⟨w6,tt ⟨(i + 1),rfl,?_,(?_ : l.length - (i + 1) < l.length - i)⟩⟩
     · exact ⟨by omega,br h3 hc16⟩
     · omega
 · refine tt ⟨?_,oK⟩
   first | exact (bu (f := Al l z.name) hc16 h3 (by omega)).symm | exact (bV (f := Al l z.name) (fun q hq => h3 q (by omega))).symm
abbrev Ha (l : List Ch) (z : Sm) : Ct := ⟨60,[(dL 5 ez aX l),(G7 z)],true,(.tup [(.agg [(dS ((mh l (aQ l z.name)).name)),(i6 ((mh l (aQ l z.name)).w)),(i6 ((mh l (aQ l z.name)).cap)),(i6 ((mh l (aQ l z.name)).frm)),(i6 ((mh l (aQ l z.name)).dst))]),(i6 (aQ l z.name))])⟩
theorem Dt (l : List Ch) (z : Sm) (hl : l.length ≤ 9223372036854775807) : CC (Ha l z) := by
 refine af.vc (V := TT 4 (CC (Kv l z)∧TT 3 (CD ((aQ l z.name) < 0) (TT 7 ((e0 = ((mh l (aQ l z.name)).name)∧(0 : Int) = ((mh l (aQ l z.name)).w)∧(0 : Int) = ((mh l (aQ l z.name)).cap)∧(0 : Int) = ((mh l (aQ l z.name)).frm)∧(0 : Int) = ((mh l (aQ l z.name)).dst)∧True)∧(aQ l z.name) = (aQ l z.name)∧True)) (TT 2 (IX (aQ l z.name) l.length∧TT 6 ((((l.getD ((aQ l z.name).toNat) aX).name) = ((mh l (aQ l z.name)).name)∧((l.getD ((aQ l z.name).toNat) aX).w) = ((mh l (aQ l z.name)).w)∧((l.getD ((aQ l z.name).toNat) aX).cap) = ((mh l (aQ l z.name)).cap)∧((l.getD ((aQ l z.name).toNat) aX).frm) = ((mh l (aQ l z.name)).frm)∧((l.getD ((aQ l z.name).toNat) aX).dst) = ((mh l (aQ l z.name)).dst)∧True)∧(aQ l z.name) = (aQ l z.name)∧True)))))) (.w 1 [(2,(Kv l z).O)] <| .b 12 (.e) (.e)) Tryz.func60 rfl rfl rfl (by kernel_rfl) ?_
 refine tt ⟨(II l z om),tt (cd (fun hc12 => ?_) (fun hc12 => ?_))⟩
 · refine tt ⟨⟨?_,?_,?_,?_,?_,oK⟩,rfl,oK⟩
   all_goals (all_goals (first | rfl | (rw [Dp (by omega)]; done) | (rw [Ak (by omega)])))
 · have hlt : aQ l z.name < l.length := m3
   refine tt ⟨ix,tt ⟨⟨?_,?_,?_,?_,?_,oK⟩,rfl,oK⟩⟩
   all_goals (all_goals (first | rfl | (rw [Dp (by omega)]; done) | (rw [Ak (by omega)])))
abbrev Hb (l : List Sm) (z : Sm) : Ct := ⟨66,[(dL 2 ey aG l),(G8 z)],true,(.tup [(.agg [(dS ((gC l (aE l z.name)).name)),(LI ((gC l (aE l z.name)).words))]),(i6 (aE l z.name))])⟩
theorem Du (l : List Sm) (z : Sm) (hl : l.length ≤ 9223372036854775807) : CC (Hb l z) := by
 refine af.vc (V := TT 4 (CC (Kw l z)∧TT 3 (CD ((aE l z.name) < 0) (TT 1 ((True∧(e0 = ((gC l (aE l z.name)).name)∧((gC l (aE l z.name)).words) = []∧True))∧TT 5 ((((gC l (aE l z.name)).name) = ((gC l (aE l z.name)).name)∧((gC l (aE l z.name)).words).map (ae .i64) = ((gC l (aE l z.name)).words).map (ae .i64)∧True)∧(aE l z.name) = (aE l z.name)∧True))) (TT 2 (IX (aE l z.name) l.length∧TT 6 ((((l.getD ((aE l z.name).toNat) aG).name) = ((gC l (aE l z.name)).name)∧((l.getD ((aE l z.name).toNat) aG).words).map (ae .i64) = ((gC l (aE l z.name)).words).map (ae .i64)∧True)∧(aE l z.name) = (aE l z.name)∧True)))))) (.w 1 [(2,(Kw l z).O)] <| .b 12 (.w 4 [(0,.val (.agg [(dS ((gC l (aE l z.name)).name)),(LI ((gC l (aE l z.name)).words))]))] <| .e) (.e)) Tryz.func66 rfl rfl rfl (by kernel_rfl) ?_
 refine tt ⟨(IJ l z om),tt (cd (fun hc12 => ?_) (fun hc12 => ?_))⟩
 · exact tt ⟨⟨oK,(by rw [Dq (by omega)]; exact ⟨rfl,rfl,oK⟩)⟩,tt ⟨⟨rfl,rfl,oK⟩,rfl,oK⟩⟩
 · have hlt : aE l z.name < l.length := m3
   refine tt ⟨ix,tt ⟨⟨?_,(congrArg _ (?_ : ((l.getD ((aE l z.name).toNat) aG).words) = ((gC l (aE l z.name)).words))),oK⟩,rfl,oK⟩⟩
   all_goals (all_goals (first | rfl | (rw [Dq (by omega)]; done) | (rw [mi (by omega)])))
abbrev Nl (a b : List Int) : Ct := ⟨67,[(LI a),(LI b)],false,(i6 (fm a b))⟩
abbrev tI (a : List Int) (b : List Int) : Lp (Nat) := fG [0,1,10,11] 0 (fun (i : Nat) => ⟨[(0,(LI a)),(1,(LI b)),(10,(i6 (((min a.length b.length) : Nat) : Int))),(11,(i6 (i : Int)))],[]⟩) (fun (i : Nat) => i ≤ min a.length b.length∧∀ q,q < i → gN a b q = false) (fun (i : Nat) => min a.length b.length - i)
theorem IK (a b : List Int) (ha : a.length ≤ 9223372036854775807) : CC (Nl a b) := by
 refine af.vc (V := TT 5 ((True∧(v7 (a.length : Int) (b.length : Int)) = (((min a.length b.length) : Nat) : Int))∧TT 1 (GO (tI a b) 0 (∀ i,(tI a b).inv i → TT 1 (CD ((i : Int) < (((min a.length b.length) : Nat) : Int)) (TT 4 (IX (i : Int) a.length∧TT 3 (IX (i : Int) b.length∧TT 2 (CN ((a.getD i 0) = (b.getD i 0)) (TT 3 ((i : Int) = (fm a b)∧True)) (W6 ((i + 1 : Nat) : Int)∧TT 1 (AG (tI a b) i (i + 1))))))) (TT 2 ((-1) = (fm a b)∧True))))))) (.w 1 [(4,.val (i6 (((min a.length b.length) : Nat) : Int)))] <| .l (tI a b) 0 (fun i => .b 12 (.b 22 (.e) (.w 6 [(0,.val (i6 ((i + 1 : Nat) : Int)))] <| .e)) (.e))) Tryz.func67 rfl rfl rfl (by kernel_rfl) ?_
 refine tt ⟨⟨oK,(by unfold v7; split <;> omega)⟩,tt ⟨rfl,⟨by omega,fun q hq => by omega⟩,?_⟩⟩
 intro i hinv
 obtain ⟨hi,h3⟩ := hinv
 refine tt (cd (fun hc12 => ?_) (fun hc12 => ?_))
 · refine tt ⟨ix,tt ⟨ix,tt (cn (fun hc22 => ?_) (fun hc22 => ?_))⟩⟩
   · refine tt ⟨?_,oK⟩
     first | exact (bu (f := gN a b) (by unfold gN; rw [decide_eq_false hc22]; rfl) h3 (by omega)).symm | exact (bV (f := gN a b) (fun q hq => h3 q (by omega))).symm
   · refine ⟨w6,tt ⟨(i + 1),rfl,?_,(?_ : min a.length b.length - (i + 1) < min a.length b.length - i)⟩⟩
     · exact ⟨by omega,br h3 (by unfold gN; rw [decide_eq_true hc22]; rfl)⟩
     · omega
 · refine tt ⟨?_,oK⟩
   first | exact (bu (f := gN a b) (by unfold gN; rw [decide_eq_false hc22]; rfl) h3 (by omega)).symm | exact (bV (f := gN a b) (fun q hq => h3 q (by omega))).symm
abbrev LS (a b : List Sm) : Ct := ⟨40,[(dL 2 ey aG a),(dL 2 ey aG b)],false,(.tup [(dS ((bl a b).name)),(i6 ((bl a b).pos)),(dB ((bl a b).is))])⟩
abbrev io (a : List Sm) (b : List Sm) : Lp (Nat) := fG [0,1,15,16,17] 0 (fun (i : Nat) => ⟨[(0,(dL 2 ey aG a)),(1,(dL 2 ey aG b)),(15,(dL 2 ey aG a)),(16,(i6 (a.length : Int))),(17,(i6 (i : Int)))],[]⟩) (fun (i : Nat) => i ≤ a.length∧∀ q,q < i → iW a b q = false) (fun (i : Nat) => a.length - i)
theorem xt (a b : List Sm) (ha : a.length ≤ 9223372036854775807) (hb : b.length ≤ 9223372036854775807) (hwa : ∀ i,(a.getD i aG).words.length ≤ 9223372036854775807) : CC (LS a b) := by
 refine af.vc (V := TT 6 (GO (io a b) 0 (∀ i,(io a b).inv i → TT 1 (CD ((i : Int) < (a.length : Int)) (TT 1 (IX (i : Int) a.length∧TT 8 (CC (Hb b (a.getD i aG))∧TT 8 (CC (Hb a (a.getD i aG))∧TT 6 (CS ((aE a (a.getD i aG).name) = (i : Int)) (TT 3 ((True∧(!decide ((aE a (a.getD i aG).name) = (i : Int))) = false)∧TT 3 (CD ((aE b (a.getD i aG).name) < 0) (W6 ((i + 1 : Nat) : Int)∧TT 1 (AG (io a b) i (i + 1))) (TT 4 (CC (Nl ((a.getD i aG).words) ((gC b (aE b (a.getD i aG).name)).words))∧TT 3 (CD ((fm ((a.getD i aG).words) ((gC b (aE b (a.getD i aG).name)).words)) ≥ 0) (TT 9 ((((a.getD i aG).name) = ((bl a b).name)∧(fm ((a.getD i aG).words) ((gC b (aE b (a.getD i aG).name)).words)) = ((bl a b).pos)∧false = ((bl a b).is)∧True)∧(True∧True∧True∧True))) (W6 ((i + 1 : Nat) : Int)∧TT 1 (AG (io a b) i (i + 1))))))))) (TT 3 ((True∧(!decide ((aE a (a.getD i aG).name) = (i : Int))) = true)∧TT 3 (W6 ((i + 1 : Nat) : Int)∧TT 1 (AG (io a b) i (i + 1)))))))))) (TT 6 ((e0 = ((bl a b).name)∧(0 : Int) = ((bl a b).pos)∧true = ((bl a b).is)∧True)∧(True∧True∧True∧True))))))) (.l (io a b) 0 (fun i => .b 18 (.f 4 0 <| .w 5 [(2,(Hb b (a.getD i aG)).O)] <| .w 6 [(2,(Hb a (a.getD i aG)).O)] <| .s 7 ((aE a (a.getD i aG).name) = (i : Int)) (.w 7 [(3,.val (dB false))] <| .b 41 (.w 11 [(0,.val (i6 ((i + 1 : Nat) : Int)))] <| .e) (.w 8 [(4,(Nl ((a.getD i aG).words) ((gC b (aE b (a.getD i aG).name)).words)).O)] <| .b 48 (.e) (.w 11 [(0,.val (i6 ((i + 1 : Nat) : Int)))] <| .e))) (.w 7 [(3,.val (dB true))] <| .w 11 [(0,.val (i6 ((i + 1 : Nat) : Int)))] <| .e)) (.e))) Tryz.func40 rfl rfl rfl (by kernel_rfl) ?_
 refine tt ⟨rfl,⟨by omega,fun q hq => by omega⟩,?_⟩
 intro i hinv
 obtain ⟨hi,h3⟩ := hinv
 refine tt (cd (fun hc18 => ?_) (fun hc18 => ?_))
 · refine tt ⟨ix,tt ⟨(Du b (a.getD i aG) hb),tt ⟨(Du a (a.getD i aG) ha),tt ⟨fun hs0 => ?_,fun hs0 => ?_⟩⟩⟩⟩
   · refine tt ⟨(nF hs0),tt (cd (fun hc41 => ?_) (fun hc41 => ?_))⟩
     · refine ⟨w6,tt ⟨(i + 1),rfl,?_,(?_ : a.length - (i + 1) < a.length - i)⟩⟩
       · exact ⟨by omega,br h3 (by first | exact nc (by first | exact hs0 | exact hs1 | assumption) | exact jo (by assumption) | exact kV (by assumption))⟩
       · omega
     · refine tt ⟨(IK ((a.getD i aG).words) ((gC b (aE b (a.getD i aG).name)).words) (hwa i)),tt (cd (fun hc48 => ?_) (fun hc48 => ?_))⟩
       · refine tt ⟨⟨?_,?_,?_,oK⟩,⟨oK,oK,oK,oK⟩⟩
         all_goals (all_goals (first | (rw [sN (fun q hq => h3 q (by omega))]; done) | (rw [r6 (i := i) (by omega) (nf (by omega) (by omega) (by omega)) h3]; rfl)))
       · refine ⟨w6,tt ⟨(i + 1),rfl,?_,(?_ : a.length - (i + 1) < a.length - i)⟩⟩
         · exact ⟨by omega,br h3 (by first | exact nc (by first | exact hs0 | exact hs1 | assumption) | exact jo (by assumption) | exact kV (by assumption))⟩
         · omega
   · refine tt ⟨(nT hs0),tt ⟨w6,tt ⟨(i + 1),rfl,?_,(?_ : a.length - (i + 1) < a.length - i)⟩⟩⟩
     · exact ⟨by omega,br h3 (by first | exact nc (by first | exact hs0 | exact hs1 | assumption) | exact jo (by assumption) | exact kV (by assumption))⟩
     · omega
 · refine tt ⟨⟨?_,?_,?_,oK⟩,⟨oK,oK,oK,oK⟩⟩
   all_goals (all_goals (first | (rw [sN (fun q hq => h3 q (by omega))]; done) | (rw [r6 (i := i) (by omega) (nf (by omega) (by omega) (by omega)) h3]; rfl)))
abbrev Kx (a b : List Sm) : Ct := ⟨43,[(dL 2 ey aG a),(dL 2 ey aG b),(.fn (.func 44) [] [])],false,(dB (nU a b))⟩
abbrev tJ (a : List Sm) (b : List Sm) : Lp (Nat) := fG [1,2,15,16,17] 0 (fun (i : Nat) => ⟨[(1,(dL 2 ey aG b)),(2,(.fn (.func 44) [] [])),(15,(dL 2 ey aG a)),(16,(i6 (a.length : Int))),(17,(i6 (i : Int)))],[]⟩) (fun (i : Nat) => i ≤ a.length∧∀ q,q < i → qB a b q = true) (fun (i : Nat) => a.length - i)
theorem IL (a b : List Sm) (ha : a.length ≤ 9223372036854775807) : CC (Kx a b) := by
 refine af.vc (V := TT 6 (CN ((a.length : Int) = (b.length : Int)) (TT 2 (false = (nU a b)∧True)) (TT 3 (GO (tJ a b) 0 (∀ i,(tJ a b).inv i → TT 1 (CD ((i : Int) < (a.length : Int)) (TT 1 (IX (i : Int) a.length∧TT 6 (IX (i : Int) b.length∧TT 6 (CC (Nk (a.getD i aG) (b.getD i aG))∧TT 1 (CB (!(((a.getD i aG).name.toList == (b.getD i aG).name.toList) && decide ((a.getD i aG).words.length = (b.getD i aG).words.length))) (TT 2 (false = (nU a b)∧True)) (W6 ((i + 1 : Nat) : Int)∧TT 1 (AG (tJ a b) i (i + 1)))))))) (TT 2 (true = (nU a b)∧True)))))))) (.b 14 (.e) (.l (tJ a b) 0 (fun i => .b 18 (.w 7 [(3,(Nk (a.getD i aG) (b.getD i aG)).O)] <| .b 30 (.e) (.w 9 [(0,.val (i6 ((i + 1 : Nat) : Int)))] <| .e)) (.e)))) Tryz.func43 rfl rfl rfl (by kernel_rfl) ?_
 refine tt (cn (fun hc14 => ?_) (fun hc14 => ?_))
 · refine tt ⟨?_,oK⟩
   first | exact (jp (by omega)).symm | exact (d8 (i := i) (by omega) (by rw [Bool.not_eq_eq_eq_not,Bool.not_true] at hc30; exact hc30)).symm | exact (hU (by omega) (fun q hq => h3 q (by omega))).symm
 · refine tt ⟨rfl,⟨by omega,fun q hq => by omega⟩,?_⟩
   intro i hinv
   obtain ⟨hi,h3⟩ := hinv
   refine tt (cd (fun hc18 => ?_) (fun hc18 => ?_))
   · refine tt ⟨ix,tt ⟨ix,tt ⟨(G9 (a.getD i aG) (b.getD i aG)),tt ⟨fun hc30 => ?_,fun hc30 => ?_⟩⟩⟩⟩
     · refine tt ⟨?_,oK⟩
       first | exact (jp (by omega)).symm | exact (d8 (i := i) (by omega) (by rw [Bool.not_eq_eq_eq_not,Bool.not_true] at hc30; exact hc30)).symm | exact (hU (by omega) (fun q hq => h3 q (by omega))).symm
     · refine ⟨w6,tt ⟨(i + 1),rfl,?_,(?_ : a.length - (i + 1) < a.length - i)⟩⟩
       · exact ⟨by omega,br h3 (by unfold qB; simpa using hc30)⟩
       · omega
   · refine tt ⟨?_,oK⟩
     first | exact (jp (by omega)).symm | exact (d8 (i := i) (by omega) (by rw [Bool.not_eq_eq_eq_not,Bool.not_true] at hc30; exact hc30)).symm | exact (hU (by omega) (fun q hq => h3 q (by omega))).symm
abbrev E1 (a b : List Sm) : Ct := ⟨21,[(dL 2 ey aG a),(dL 2 ey aG b)],false,(dB (fo a b))⟩
theorem fk (a b : List Sm) (ha : a.length ≤ 9223372036854775807) (hb : b.length ≤ 9223372036854775807) (hwa : ∀ i,(a.getD i aG).words.length ≤ 9223372036854775807) : CC (E1 a b) := by
 refine af.vc (V := TT 3 (CC (LS a b)∧TT 7 (CS (((bl a b).is) = true) (TT 1 ((True∧((bl a b).is) = true)∧TT 2 (CC (Kx a b)∧TT 3 ((nU a b) = (fo a b)∧True)))) (TT 1 ((True∧((bl a b).is) = false)∧TT 6 (false = (fo a b)∧True)))))) (.w 1 [(2,(LS a b).O)] <| .s 2 (((bl a b).is) = true) (.w 2 [(1,.val (dB true)),(4,(Kx a b).O)] <| .e) (.w 2 [(1,.val (dB false))] <| .e)) Tryz.func21 rfl rfl rfl (by kernel_rfl) ?_
 refine tt ⟨(xt a b ha hb hwa),tt ⟨fun hs0 => ?_,fun hs0 => ?_⟩⟩
 · refine tt ⟨(bT hs0),tt ⟨(IL a b ha),tt ⟨?_,oK⟩⟩⟩
   first | (rw [kW (by simpa using hs0)]) | (rw [G5 (by simpa using hs0)]; rfl)
 · refine tt ⟨(bF hs0),tt ⟨?_,oK⟩⟩
   first | (rw [kW (by simpa using hs0)]) | (rw [G5 (by simpa using hs0)]; rfl)
end Go.Proofs.YtgmpoenfoacofaaGreat
