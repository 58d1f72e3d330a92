/-
  Package shadow: first elements, differences, agreement.
-/
import Derived.Test.YtgmpoenfoacofaaGreatQNeJ
import Derived.Test.YtgmpoenfoacofaaGreatQShA
namespace Go.Proofs.YtgmpoenfoacofaaGreat
open Go.RowKit
set_option linter.unusedVariables false
set_option linter.unusedSimpArgs false
abbrev Fo (z : Sm) : D := (.fn (.func 61) [] [(.iptr [(.str z.name),(.sl 1 (ae .i64) 0 z.words)] 0)])
abbrev Fp (z : Sm) : D := (.fn (.func 65) [] [(.iptr [(.str z.name),(.sl 1 (ae .i64) 0 z.words)] 0)])
set_option maxRecDepth 100000
abbrev Lf (h : Ch) (z : Sm) : Ct := ⟨61,[(.agg [(dS h.name),(i6 h.w),(i6 h.cap),(i6 h.frm),(i6 h.dst)]),(.iptr [(.str z.name),(.sl 1 (ae .i64) 0 z.words)] 0)],false,(dB (decide (h.frm = -1) && (h.name.toList == z.name.toList)))⟩
theorem Db (h : Ch) (z : Sm) : CC (Lf h z) := by
 refine ah.vc (V := TT 2 (CS (h.frm = (-1)) (TT 3 ((True∧(decide (h.frm = (-1))) = true)∧TT 8 ((h.name.toList == z.name.toList) = (decide (h.frm = -1) && (h.name.toList == z.name.toList))∧True))) (TT 3 ((True∧(decide (h.frm = (-1))) = false)∧TT 8 (false = (decide (h.frm = -1) && (h.name.toList == z.name.toList))∧True))))) (.s 1 (h.frm = (-1)) (.w 1 [(3,.val (dB true))] <| .e) (.w 1 [(3,.val (dB false))] <| .e)) Tryz.func61 rfl rfl rfl (by kernel_rfl) ?_
 refine tt ⟨fun hs0 => ?_,fun hs0 => ?_⟩
 · refine tt ⟨(vT hs0),tt ⟨?_,oK⟩⟩
   first | (rw [decide_eq_true hs0]; rfl) | (rw [decide_eq_false hs0]; rfl)
 · refine tt ⟨(vF hs0),tt ⟨?_,oK⟩⟩
   first | (rw [decide_eq_true hs0]; rfl) | (rw [decide_eq_false hs0]; rfl)
abbrev Lg (y z : Sm) : Ct := ⟨65,[(.agg [(dS y.name),(LI y.words)]),(.iptr [(.str z.name),(.sl 1 (ae .i64) 0 z.words)] 0)],false,(dB (y.name.toList == z.name.toList))⟩
theorem z4 (y z : Sm) : CC (Lg y z) := by
 refine ah.vc (V := TT 9 ((y.name.toList == z.name.toList) = (y.name.toList == z.name.toList)∧True)) (.e) Tryz.func65 rfl rfl rfl (by kernel_rfl) ?_
 exact tt ⟨rfl,oK⟩
abbrev Lh (y z : Sm) : Ct := ⟨44,[(.agg [(dS y.name),(LI y.words)]),(.agg [(dS z.name),(LI z.words)])],false,(dB ((y.name.toList == z.name.toList) && decide (y.words.length = z.words.length)))⟩
theorem Fq (y z : Sm) : CC (Lh y z) := by
 refine ah.vc (V := TT 3 (CS ((y.name.toList == z.name.toList) = true) (TT 5 ((True∧(y.name.toList == z.name.toList) = true)∧TT 10 (((y.words.length : Int) == (z.words.length : Int)) = ((y.name.toList == z.name.toList) && decide (y.words.length = z.words.length))∧True))) (TT 5 ((True∧(y.name.toList == z.name.toList) = false)∧TT 10 (false = ((y.name.toList == z.name.toList) && decide (y.words.length = z.words.length))∧True))))) (.s 1 ((y.name.toList == z.name.toList) = true) (.w 1 [(5,.val (dB true))] <| .e) (.w 1 [(5,.val (dB false))] <| .e)) Tryz.func44 rfl rfl rfl (by kernel_rfl) ?_
 refine tt ⟨fun hs0 => ?_,fun hs0 => ?_⟩
 · refine tt ⟨(bT hs0),tt ⟨?_,oK⟩⟩
   first | (rw [show (y.name.toList == z.name.toList) = true from hs0,Bool.true_and]; exact decide_eq_decide.2 (by omega)) | (rw [show (y.name.toList == z.name.toList) = false by simpa using hs0]; rfl)
 · refine tt ⟨(bF hs0),tt ⟨?_,oK⟩⟩
   first | (rw [show (y.name.toList == z.name.toList) = true from hs0,Bool.true_and]; exact decide_eq_decide.2 (by omega)) | (rw [show (y.name.toList == z.name.toList) = false by simpa using hs0]; rfl)
abbrev IE (l : List Ch) (z : Sm) : Ct := ⟨74,[(dL 5 eP a8 l),(Fo z)],false,(i6 (bg l z.name))⟩
abbrev rS (l : List Ch) (z : Sm) : Lp (Nat) := iy [0,1,7,8] 0 (fun (i : Nat) => ⟨[(0,(dL 5 eP a8 l)),(1,(Fo z)),(7,(i6 (l.length : Int))),(8,(i6 (i : Int)))],[]⟩) (fun (i : Nat) => i ≤ l.length∧∀ q,q < i → ru l z.name q = false) (fun (i : Nat) => l.length - i)
theorem GT (l : List Ch) (z : Sm) (hl : l.length ≤ 9223372036854775807) : CC (IE l z) := by
 refine ah.vc (V := TT 4 (GO (rS l z) 0 (∀ i,(rS l z).inv i → TT 1 (CD ((i : Int) < (l.length : Int)) (TT 5 (IX (i : Int) l.length∧TT 1 (CC (Lf (l.getD i a8) z)∧CB (decide ((l.getD i a8).frm = -1) && ((l.getD i a8).name.toList == z.name.toList)) (TT 3 ((i : Int) = (bg l z.name)∧True)) (W6 ((i + 1 : Nat) : Int)∧TT 1 (AG (rS l z) i (i + 1)))))) (TT 2 ((-1) = (bg l z.name)∧True)))))) (.l (rS l z) 0 (fun i => .b 9 (.w 4 [(5,(Lf (l.getD i a8) z).O)] <| .b 16 (.e) (.w 6 [(0,.val (i6 ((i + 1 : Nat) : Int)))] <| .e)) (.e))) Tryz.func74 rfl rfl rfl (by kernel_rfl) ?_
 refine tt ⟨rfl,⟨by omega,fun q hq => by omega⟩,?_⟩
 intro i hinv
 obtain ⟨hi,h3⟩ := hinv
 refine tt (cd (fun hc9 => ?_) (fun hc9 => ?_))
 · refine tt ⟨ix,tt ⟨(Db (l.getD i a8) z),⟨fun hc16 => ?_,fun hc16 => ?_⟩⟩⟩
   · refine tt ⟨?_,oK⟩
     first | exact (cJ (f := ru l z.name) hc16 h3 (by omega)).symm | exact (dk (f := ru l z.name) (fun q hq => h3 q (by omega))).symm
   · refine ⟨w6,tt ⟨(i + 1),rfl,?_,(?_ : l.length - (i + 1) < l.length - i)⟩⟩
     · exact ⟨by omega,cK h3 hc16⟩
     · omega
 · refine tt ⟨?_,oK⟩
   first | exact (cJ (f := ru l z.name) hc16 h3 (by omega)).symm | exact (dk (f := ru l z.name) (fun q hq => h3 q (by omega))).symm
abbrev IG (l : List Sm) (z : Sm) : Ct := ⟨81,[(dL 2 lY b7 l),(Fp z)],false,(i6 (ba l z.name))⟩
abbrev rT (l : List Sm) (z : Sm) : Lp (Nat) := iy [0,1,7,8] 0 (fun (i : Nat) => ⟨[(0,(dL 2 lY b7 l)),(1,(Fp z)),(7,(i6 (l.length : Int))),(8,(i6 (i : Int)))],[]⟩) (fun (i : Nat) => i ≤ l.length∧∀ q,q < i → HJ l z.name q = false) (fun (i : Nat) => l.length - i)
theorem GU (l : List Sm) (z : Sm) (hl : l.length ≤ 9223372036854775807) : CC (IG l z) := by
 refine ah.vc (V := TT 4 (GO (rT l z) 0 (∀ i,(rT l z).inv i → TT 1 (CD ((i : Int) < (l.length : Int)) (TT 5 (IX (i : Int) l.length∧TT 1 (CC (Lg (l.getD i b7) z)∧CB ((l.getD i b7).name.toList == z.name.toList) (TT 3 ((i : Int) = (ba l z.name)∧True)) (W6 ((i + 1 : Nat) : Int)∧TT 1 (AG (rT l z) i (i + 1)))))) (TT 2 ((-1) = (ba l z.name)∧True)))))) (.l (rT l z) 0 (fun i => .b 9 (.w 4 [(5,(Lg (l.getD i b7) z).O)] <| .b 16 (.e) (.w 6 [(0,.val (i6 ((i + 1 : Nat) : Int)))] <| .e)) (.e))) Tryz.func81 rfl rfl rfl (by kernel_rfl) ?_
 refine tt ⟨rfl,⟨by omega,fun q hq => by omega⟩,?_⟩
 intro i hinv
 obtain ⟨hi,h3⟩ := hinv
 refine tt (cd (fun hc9 => ?_) (fun hc9 => ?_))
 · refine tt ⟨ix,tt ⟨(z4 (l.getD i b7) z),⟨fun hc16 => ?_,fun hc16 => ?_⟩⟩⟩
   · refine tt ⟨?_,oK⟩
     first | exact (cJ (f := HJ l z.name) hc16 h3 (by omega)).symm | exact (dk (f := HJ l z.name) (fun q hq => h3 q (by omega))).symm
   · refine ⟨w6,tt ⟨(i + 1),rfl,?_,(?_ : l.length - (i + 1) < l.length - i)⟩⟩
     · exact ⟨by omega,cK h3 hc16⟩
     · omega
 · refine tt ⟨?_,oK⟩
   first | exact (cJ (f := HJ l z.name) hc16 h3 (by omega)).symm | exact (dk (f := HJ l z.name) (fun q hq => h3 q (by omega))).symm
abbrev Fr (l : List Ch) (z : Sm) : Ct := ⟨60,[(dL 5 eP a8 l),(Fo z)],true,(.tup [(.agg [(dS ((kZ l (bg l z.name)).name)),(i6 ((kZ l (bg l z.name)).w)),(i6 ((kZ l (bg l z.name)).cap)),(i6 ((kZ l (bg l z.name)).frm)),(i6 ((kZ l (bg l z.name)).dst))]),(i6 (bg l z.name))])⟩
theorem BB (l : List Ch) (z : Sm) (hl : l.length ≤ 9223372036854775807) : CC (Fr l z) := by
 refine ah.vc (V := TT 4 (CC (IE l z)∧TT 3 (CD ((bg l z.name) < 0) (TT 7 ((e0 = ((kZ l (bg l z.name)).name)∧(0 : Int) = ((kZ l (bg l z.name)).w)∧(0 : Int) = ((kZ l (bg l z.name)).cap)∧(0 : Int) = ((kZ l (bg l z.name)).frm)∧(0 : Int) = ((kZ l (bg l z.name)).dst)∧True)∧(bg l z.name) = (bg l z.name)∧True)) (TT 2 (IX (bg l z.name) l.length∧TT 6 ((((l.getD ((bg l z.name).toNat) a8).name) = ((kZ l (bg l z.name)).name)∧((l.getD ((bg l z.name).toNat) a8).w) = ((kZ l (bg l z.name)).w)∧((l.getD ((bg l z.name).toNat) a8).cap) = ((kZ l (bg l z.name)).cap)∧((l.getD ((bg l z.name).toNat) a8).frm) = ((kZ l (bg l z.name)).frm)∧((l.getD ((bg l z.name).toNat) a8).dst) = ((kZ l (bg l z.name)).dst)∧True)∧(bg l z.name) = (bg l z.name)∧True)))))) (.w 1 [(2,(IE l z).O)] <| .b 12 (.e) (.e)) Tryz.func60 rfl rfl rfl (by kernel_rfl) ?_
 refine tt ⟨(GT l z om),tt (cd (fun hc12 => ?_) (fun hc12 => ?_))⟩
 · refine tt ⟨⟨?_,?_,?_,?_,?_,oK⟩,rfl,oK⟩
   all_goals (all_goals (first | rfl | (rw [Bv (by omega)]; done) | (rw [yu (by omega)])))
 · have hlt : bg l z.name < l.length := qq
   refine tt ⟨ix,tt ⟨⟨?_,?_,?_,?_,?_,oK⟩,rfl,oK⟩⟩
   all_goals (all_goals (first | rfl | (rw [Bv (by omega)]; done) | (rw [yu (by omega)])))
abbrev Fs (l : List Sm) (z : Sm) : Ct := ⟨66,[(dL 2 lY b7 l),(Fp z)],true,(.tup [(.agg [(dS ((ij l (ba l z.name)).name)),(LI ((ij l (ba l z.name)).words))]),(i6 (ba l z.name))])⟩
theorem BC (l : List Sm) (z : Sm) (hl : l.length ≤ 9223372036854775807) : CC (Fs l z) := by
 refine ah.vc (V := TT 4 (CC (IG l z)∧TT 3 (CD ((ba l z.name) < 0) (TT 1 ((True∧(e0 = ((ij l (ba l z.name)).name)∧((ij l (ba l z.name)).words) = []∧True))∧TT 5 ((((ij l (ba l z.name)).name) = ((ij l (ba l z.name)).name)∧((ij l (ba l z.name)).words).map (ae .i64) = ((ij l (ba l z.name)).words).map (ae .i64)∧True)∧(ba l z.name) = (ba l z.name)∧True))) (TT 2 (IX (ba l z.name) l.length∧TT 6 ((((l.getD ((ba l z.name).toNat) b7).name) = ((ij l (ba l z.name)).name)∧((l.getD ((ba l z.name).toNat) b7).words).map (ae .i64) = ((ij l (ba l z.name)).words).map (ae .i64)∧True)∧(ba l z.name) = (ba l z.name)∧True)))))) (.w 1 [(2,(IG l z).O)] <| .b 12 (.w 4 [(0,.val (.agg [(dS ((ij l (ba l z.name)).name)),(LI ((ij l (ba l z.name)).words))]))] <| .e) (.e)) Tryz.func66 rfl rfl rfl (by kernel_rfl) ?_
 refine tt ⟨(GU l z om),tt (cd (fun hc12 => ?_) (fun hc12 => ?_))⟩
 · exact tt ⟨⟨oK,(by rw [Bw (by omega)]; exact ⟨rfl,rfl,oK⟩)⟩,tt ⟨⟨rfl,rfl,oK⟩,rfl,oK⟩⟩
 · have hlt : ba l z.name < l.length := qq
   refine tt ⟨ix,tt ⟨⟨?_,(congrArg _ (?_ : ((l.getD ((ba l z.name).toNat) b7).words) = ((ij l (ba l z.name)).words))),oK⟩,rfl,oK⟩⟩
   all_goals (all_goals (first | rfl | (rw [Bw (by omega)]; done) | (rw [yv (by omega)])))
abbrev Li (a b : List Int) : Ct := ⟨67,[(LI a),(LI b)],false,(i6 (k9 a b))⟩
abbrev rU (a : List Int) (b : List Int) : Lp (Nat) := iy [0,1,10,11] 0 (fun (i : Nat) => ⟨[(0,(LI a)),(1,(LI b)),(10,(i6 (((min a.length b.length) : Nat) : Int))),(11,(i6 (i : Int)))],[]⟩) (fun (i : Nat) => i ≤ min a.length b.length∧∀ q,q < i → un a b q = false) (fun (i : Nat) => min a.length b.length - i)
theorem GV (a b : List Int) (ha : a.length ≤ 9223372036854775807) : CC (Li a b) := by
 refine ah.vc (V := TT 5 ((True∧(t8 (a.length : Int) (b.length : Int)) = (((min a.length b.length) : Nat) : Int))∧TT 1 (GO (rU a b) 0 (∀ i,(rU a b).inv i → TT 1 (CD ((i : Int) < (((min a.length b.length) : Nat) : Int)) (TT 4 (IX (i : Int) a.length∧TT 3 (IX (i : Int) b.length∧TT 2 (CN ((a.getD i 0) = (b.getD i 0)) (TT 3 ((i : Int) = (k9 a b)∧True)) (W6 ((i + 1 : Nat) : Int)∧TT 1 (AG (rU a b) i (i + 1))))))) (TT 2 ((-1) = (k9 a b)∧True))))))) (.w 1 [(4,.val (i6 (((min a.length b.length) : Nat) : Int)))] <| .l (rU a b) 0 (fun i => .b 12 (.b 22 (.e) (.w 6 [(0,.val (i6 ((i + 1 : Nat) : Int)))] <| .e)) (.e))) Tryz.func67 rfl rfl rfl (by kernel_rfl) ?_
 refine tt ⟨⟨oK,(by unfold t8; split <;> omega)⟩,tt ⟨rfl,⟨by omega,fun q hq => by omega⟩,?_⟩⟩
 intro i hinv
 obtain ⟨hi,h3⟩ := hinv
 refine tt (cd (fun hc12 => ?_) (fun hc12 => ?_))
 · refine tt ⟨ix,tt ⟨ix,tt (cn (fun hc22 => ?_) (fun hc22 => ?_))⟩⟩
   · refine tt ⟨?_,oK⟩
     first | exact (cJ (f := un a b) (by unfold un; rw [decide_eq_false hc22]; rfl) h3 (by omega)).symm | exact (dk (f := un a b) (fun q hq => h3 q (by omega))).symm
   · refine ⟨w6,tt ⟨(i + 1),rfl,?_,(?_ : min a.length b.length - (i + 1) < min a.length b.length - i)⟩⟩
     · exact ⟨by omega,cK h3 (by unfold un; rw [decide_eq_true hc22]; rfl)⟩
     · omega
 · refine tt ⟨?_,oK⟩
   first | exact (cJ (f := un a b) (by unfold un; rw [decide_eq_false hc22]; rfl) h3 (by omega)).symm | exact (dk (f := un a b) (fun q hq => h3 q (by omega))).symm
abbrev JW (a b : List Sm) : Ct := ⟨40,[(dL 2 lY b7 a),(dL 2 lY b7 b)],false,(.tup [(dS ((dP a b).name)),(i6 ((dP a b).pos)),(dB ((dP a b).is))])⟩
abbrev gO (a : List Sm) (b : List Sm) : Lp (Nat) := iy [0,1,15,16,17] 0 (fun (i : Nat) => ⟨[(0,(dL 2 lY b7 a)),(1,(dL 2 lY b7 b)),(15,(dL 2 lY b7 a)),(16,(i6 (a.length : Int))),(17,(i6 (i : Int)))],[]⟩) (fun (i : Nat) => i ≤ a.length∧∀ q,q < i → pb a b q = false) (fun (i : Nat) => a.length - i)
theorem vA (a b : List Sm) (ha : a.length ≤ 9223372036854775807) (hb : b.length ≤ 9223372036854775807) (hwa : ∀ i,(a.getD i b7).words.length ≤ 9223372036854775807) : CC (JW a b) := by
 refine ah.vc (V := TT 6 (GO (gO a b) 0 (∀ i,(gO a b).inv i → TT 1 (CD ((i : Int) < (a.length : Int)) (TT 1 (IX (i : Int) a.length∧TT 8 (CC (Fs b (a.getD i b7))∧TT 8 (CC (Fs a (a.getD i b7))∧TT 6 (CS ((ba a (a.getD i b7).name) = (i : Int)) (TT 3 ((True∧(!decide ((ba a (a.getD i b7).name) = (i : Int))) = false)∧TT 3 (CD ((ba b (a.getD i b7).name) < 0) (W6 ((i + 1 : Nat) : Int)∧TT 1 (AG (gO a b) i (i + 1))) (TT 4 (CC (Li ((a.getD i b7).words) ((ij b (ba b (a.getD i b7).name)).words))∧TT 3 (CD ((k9 ((a.getD i b7).words) ((ij b (ba b (a.getD i b7).name)).words)) ≥ 0) (TT 9 ((((a.getD i b7).name) = ((dP a b).name)∧(k9 ((a.getD i b7).words) ((ij b (ba b (a.getD i b7).name)).words)) = ((dP a b).pos)∧false = ((dP a b).is)∧True)∧(True∧True∧True∧True))) (W6 ((i + 1 : Nat) : Int)∧TT 1 (AG (gO a b) i (i + 1))))))))) (TT 3 ((True∧(!decide ((ba a (a.getD i b7).name) = (i : Int))) = true)∧TT 3 (W6 ((i + 1 : Nat) : Int)∧TT 1 (AG (gO a b) i (i + 1)))))))))) (TT 6 ((e0 = ((dP a b).name)∧(0 : Int) = ((dP a b).pos)∧true = ((dP a b).is)∧True)∧(True∧True∧True∧True))))))) (.l (gO a b) 0 (fun i => .b 18 (.f 4 0 <| .w 5 [(2,(Fs b (a.getD i b7)).O)] <| .w 6 [(2,(Fs a (a.getD i b7)).O)] <| .s 7 ((ba a (a.getD i b7).name) = (i : Int)) (.w 7 [(3,.val (dB false))] <| .b 41 (.w 11 [(0,.val (i6 ((i + 1 : Nat) : Int)))] <| .e) (.w 8 [(4,(Li ((a.getD i b7).words) ((ij b (ba b (a.getD i b7).name)).words)).O)] <| .b 48 (.e) (.w 11 [(0,.val (i6 ((i + 1 : Nat) : Int)))] <| .e))) (.w 7 [(3,.val (dB true))] <| .w 11 [(0,.val (i6 ((i + 1 : Nat) : Int)))] <| .e)) (.e))) Tryz.func40 rfl rfl rfl (by kernel_rfl) ?_
 refine tt ⟨rfl,⟨by omega,fun q hq => by omega⟩,?_⟩
 intro i hinv
 obtain ⟨hi,h3⟩ := hinv
 refine tt (cd (fun hc18 => ?_) (fun hc18 => ?_))
 · refine tt ⟨ix,tt ⟨(BC b (a.getD i b7) hb),tt ⟨(BC a (a.getD i b7) ha),tt ⟨fun hs0 => ?_,fun hs0 => ?_⟩⟩⟩⟩
   · refine tt ⟨(nF hs0),tt (cd (fun hc41 => ?_) (fun hc41 => ?_))⟩
     · refine ⟨w6,tt ⟨(i + 1),rfl,?_,(?_ : a.length - (i + 1) < a.length - i)⟩⟩
       · exact ⟨by omega,cK h3 (by first | exact rQ (by first | exact hs0 | exact hs1 | assumption) | exact lZ (by assumption) | exact pc (by assumption))⟩
       · omega
     · refine tt ⟨(GV ((a.getD i b7).words) ((ij b (ba b (a.getD i b7).name)).words) (hwa i)),tt (cd (fun hc48 => ?_) (fun hc48 => ?_))⟩
       · refine tt ⟨⟨?_,?_,?_,oK⟩,⟨oK,oK,oK,oK⟩⟩
         all_goals (all_goals (first | (rw [vz (fun q hq => h3 q (by omega))]; done) | (rw [z3 (i := i) (by omega) (wX (by omega) (by omega) (by omega)) h3]; rfl)))
       · refine ⟨w6,tt ⟨(i + 1),rfl,?_,(?_ : a.length - (i + 1) < a.length - i)⟩⟩
         · exact ⟨by omega,cK h3 (by first | exact rQ (by first | exact hs0 | exact hs1 | assumption) | exact lZ (by assumption) | exact pc (by assumption))⟩
         · omega
   · refine tt ⟨(nT hs0),tt ⟨w6,tt ⟨(i + 1),rfl,?_,(?_ : a.length - (i + 1) < a.length - i)⟩⟩⟩
     · exact ⟨by omega,cK h3 (by first | exact rQ (by first | exact hs0 | exact hs1 | assumption) | exact lZ (by assumption) | exact pc (by assumption))⟩
     · omega
 · refine tt ⟨⟨?_,?_,?_,oK⟩,⟨oK,oK,oK,oK⟩⟩
   all_goals (all_goals (first | (rw [vz (fun q hq => h3 q (by omega))]; done) | (rw [z3 (i := i) (by omega) (wX (by omega) (by omega) (by omega)) h3]; rfl)))
abbrev IH (a b : List Sm) : Ct := ⟨43,[(dL 2 lY b7 a),(dL 2 lY b7 b),(.fn (.func 44) [] [])],false,(dB (nr a b))⟩
abbrev rV (a : List Sm) (b : List Sm) : Lp (Nat) := iy [1,2,15,16,17] 0 (fun (i : Nat) => ⟨[(1,(dL 2 lY b7 b)),(2,(.fn (.func 44) [] [])),(15,(dL 2 lY b7 a)),(16,(i6 (a.length : Int))),(17,(i6 (i : Int)))],[]⟩) (fun (i : Nat) => i ≤ a.length∧∀ q,q < i → tD a b q = true) (fun (i : Nat) => a.length - i)
theorem GW (a b : List Sm) (ha : a.length ≤ 9223372036854775807) : CC (IH a b) := by
 refine ah.vc (V := TT 6 (CN ((a.length : Int) = (b.length : Int)) (TT 2 (false = (nr a b)∧True)) (TT 3 (GO (rV a b) 0 (∀ i,(rV a b).inv i → TT 1 (CD ((i : Int) < (a.length : Int)) (TT 1 (IX (i : Int) a.length∧TT 6 (IX (i : Int) b.length∧TT 6 (CC (Lh (a.getD i b7) (b.getD i b7))∧TT 1 (CB (!(((a.getD i b7).name.toList == (b.getD i b7).name.toList) && decide ((a.getD i b7).words.length = (b.getD i b7).words.length))) (TT 2 (false = (nr a b)∧True)) (W6 ((i + 1 : Nat) : Int)∧TT 1 (AG (rV a b) i (i + 1)))))))) (TT 2 (true = (nr a b)∧True)))))))) (.b 14 (.e) (.l (rV a b) 0 (fun i => .b 18 (.w 7 [(3,(Lh (a.getD i b7) (b.getD i b7)).O)] <| .b 30 (.e) (.w 9 [(0,.val (i6 ((i + 1 : Nat) : Int)))] <| .e)) (.e)))) Tryz.func43 rfl rfl rfl (by kernel_rfl) ?_
 refine tt (cn (fun hc14 => ?_) (fun hc14 => ?_))
 · refine tt ⟨?_,oK⟩
   first | exact (wY (by omega)).symm | exact (rR (i := i) (by omega) (by rw [Bool.not_eq_eq_eq_not,Bool.not_true] at hc30; exact hc30)).symm | exact (pg (by omega) (fun q hq => h3 q (by omega))).symm
 · refine tt ⟨rfl,⟨by omega,fun q hq => by omega⟩,?_⟩
   intro i hinv
   obtain ⟨hi,h3⟩ := hinv
   refine tt (cd (fun hc18 => ?_) (fun hc18 => ?_))
   · refine tt ⟨ix,tt ⟨ix,tt ⟨(Fq (a.getD i b7) (b.getD i b7)),tt ⟨fun hc30 => ?_,fun hc30 => ?_⟩⟩⟩⟩
     · refine tt ⟨?_,oK⟩
       first | exact (wY (by omega)).symm | exact (rR (i := i) (by omega) (by rw [Bool.not_eq_eq_eq_not,Bool.not_true] at hc30; exact hc30)).symm | exact (pg (by omega) (fun q hq => h3 q (by omega))).symm
     · refine ⟨w6,tt ⟨(i + 1),rfl,?_,(?_ : a.length - (i + 1) < a.length - i)⟩⟩
       · exact ⟨by omega,cK h3 (by unfold tD; simpa using hc30)⟩
       · omega
   · refine tt ⟨?_,oK⟩
     first | exact (wY (by omega)).symm | exact (rR (i := i) (by omega) (by rw [Bool.not_eq_eq_eq_not,Bool.not_true] at hc30; exact hc30)).symm | exact (pg (by omega) (fun q hq => h3 q (by omega))).symm
abbrev Ft (a b : List Sm) : Ct := ⟨21,[(dL 2 lY b7 a),(dL 2 lY b7 b)],false,(dB (ji a b))⟩
theorem fR (a b : List Sm) (ha : a.length ≤ 9223372036854775807) (hb : b.length ≤ 9223372036854775807) (hwa : ∀ i,(a.getD i b7).words.length ≤ 9223372036854775807) : CC (Ft a b) := by
 refine ah.vc (V := TT 3 (CC (JW a b)∧TT 7 (CS (((dP a b).is) = true) (TT 1 ((True∧((dP a b).is) = true)∧TT 2 (CC (IH a b)∧TT 3 ((nr a b) = (ji a b)∧True)))) (TT 1 ((True∧((dP a b).is) = false)∧TT 6 (false = (ji a b)∧True)))))) (.w 1 [(2,(JW a b).O)] <| .s 2 (((dP a b).is) = true) (.w 2 [(1,.val (dB true)),(4,(IH a b).O)] <| .e) (.w 2 [(1,.val (dB false))] <| .e)) Tryz.func21 rfl rfl rfl (by kernel_rfl) ?_
 refine tt ⟨(vA a b ha hb hwa),tt ⟨fun hs0 => ?_,fun hs0 => ?_⟩⟩
 · refine tt ⟨(bT hs0),tt ⟨(GW a b ha),tt ⟨?_,oK⟩⟩⟩
   first | (rw [Bx (by simpa using hs0)]) | (rw [Fl (by simpa using hs0)]; rfl)
 · refine tt ⟨(bF hs0),tt ⟨?_,oK⟩⟩
   first | (rw [Bx (by simpa using hs0)]) | (rw [Fl (by simpa using hs0)]; rfl)
end Go.Proofs.YtgmpoenfoacofaaGreat
