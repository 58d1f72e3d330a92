/-
  Package shadow: first elements, differences, agreement.
-/
import Derived.Test.YtgmpoenfoacofaaGreatQNeJ
import Derived.Test.YtgmpoenfoacofaaGreatQShA
namespace Go.Proofs.YtgmpoenfoacofaaGreat
open Go.RowKit
set_option linter.unusedVariables false
set_option linter.unusedSimpArgs false
abbrev F5 (z : Sm) : D := (.fn (.func 61) [] [(.iptr [(.str z.name),(.sl 1 (ae .i64) 0 z.words)] 0)])
abbrev F6 (z : Sm) : D := (.fn (.func 65) [] [(.iptr [(.str z.name),(.sl 1 (ae .i64) 0 z.words)] 0)])
set_option maxRecDepth 100000
abbrev L4 (h : Ch) (z : Sm) : Ct := ⟨61,[(.agg [(dS h.name),(i6 h.w),(i6 h.cap),(i6 h.frm),(i6 h.dst)]),(.iptr [(.str z.name),(.sl 1 (ae .i64) 0 z.words)] 0)],false,(dB (decide (h.frm = -1) && (h.name.toList == z.name.toList)))⟩
theorem DX (h : Ch) (z : Sm) : CC (L4 h z) := by
 refine ah.vc (V := TT 2 (CS (h.frm = (-1)) (TT 3 ((True∧(decide (h.frm = (-1))) = true)∧TT 8 ((h.name.toList == z.name.toList) = (decide (h.frm = -1) && (h.name.toList == z.name.toList))∧True))) (TT 3 ((True∧(decide (h.frm = (-1))) = false)∧TT 8 (false = (decide (h.frm = -1) && (h.name.toList == z.name.toList))∧True))))) (.s 1 (h.frm = (-1)) (.w 1 [(3,.val (dB true))] <| .e) (.w 1 [(3,.val (dB false))] <| .e)) Tryz.func61 rfl rfl rfl (by kernel_rfl) ?_
 refine tt ⟨fun hs0 => ?_,fun hs0 => ?_⟩
 · refine tt ⟨(vT hs0),tt ⟨?_,oK⟩⟩
   first | (rw [decide_eq_true hs0]; rfl) | (rw [decide_eq_false hs0]; rfl)
 · refine tt ⟨(vF hs0),tt ⟨?_,oK⟩⟩
   first | (rw [decide_eq_true hs0]; rfl) | (rw [decide_eq_false hs0]; rfl)
abbrev L5 (y z : Sm) : Ct := ⟨65,[(.agg [(dS y.name),(LI y.words)]),(.iptr [(.str z.name),(.sl 1 (ae .i64) 0 z.words)] 0)],false,(dB (y.name.toList == z.name.toList))⟩
theorem AW (y z : Sm) : CC (L5 y z) := by
 refine ah.vc (V := TT 9 ((y.name.toList == z.name.toList) = (y.name.toList == z.name.toList)∧True)) (.e) Tryz.func65 rfl rfl rfl (by kernel_rfl) ?_
 exact tt ⟨rfl,oK⟩
abbrev L6 (y z : Sm) : Ct := ⟨44,[(.agg [(dS y.name),(LI y.words)]),(.agg [(dS z.name),(LI z.words)])],false,(dB ((y.name.toList == z.name.toList) && decide (y.words.length = z.words.length)))⟩
theorem F7 (y z : Sm) : CC (L6 y z) := by
 refine ah.vc (V := TT 3 (CS ((y.name.toList == z.name.toList) = true) (TT 5 ((True∧(y.name.toList == z.name.toList) = true)∧TT 10 (((y.words.length : Int) == (z.words.length : Int)) = ((y.name.toList == z.name.toList) && decide (y.words.length = z.words.length))∧True))) (TT 5 ((True∧(y.name.toList == z.name.toList) = false)∧TT 10 (false = ((y.name.toList == z.name.toList) && decide (y.words.length = z.words.length))∧True))))) (.s 1 ((y.name.toList == z.name.toList) = true) (.w 1 [(5,.val (dB true))] <| .e) (.w 1 [(5,.val (dB false))] <| .e)) Tryz.func44 rfl rfl rfl (by kernel_rfl) ?_
 refine tt ⟨fun hs0 => ?_,fun hs0 => ?_⟩
 · refine tt ⟨(bT hs0),tt ⟨?_,oK⟩⟩
   first | (rw [show (y.name.toList == z.name.toList) = true from hs0,Bool.true_and]; exact decide_eq_decide.2 (by omega)) | (rw [show (y.name.toList == z.name.toList) = false by simpa using hs0]; rfl)
 · refine tt ⟨(bF hs0),tt ⟨?_,oK⟩⟩
   first | (rw [show (y.name.toList == z.name.toList) = true from hs0,Bool.true_and]; exact decide_eq_decide.2 (by omega)) | (rw [show (y.name.toList == z.name.toList) = false by simpa using hs0]; rfl)
abbrev Ju (l : List Ch) (z : Sm) : Ct := ⟨74,[(dL 5 eY ba l),(F5 z)],false,(i6 (bi l z.name))⟩
abbrev sD (l : List Ch) (z : Sm) : Lp (Nat) := iP [0,1,7,8] 0 (fun (i : Nat) => ⟨[(0,(dL 5 eY ba l)),(1,(F5 z)),(7,(i6 (l.length : Int))),(8,(i6 (i : Int)))],[]⟩) (fun (i : Nat) => i ≤ l.length∧∀ q,q < i → r8 l z.name q = false) (fun (i : Nat) => l.length - i)
theorem HA (l : List Ch) (z : Sm) (hl : l.length ≤ 9223372036854775807) : CC (Ju l z) := by
 refine ah.vc (V := TT 4 (GO (sD l z) 0 (∀ i,(sD l z).inv i → TT 1 (CD ((i : Int) < (l.length : Int)) (TT 5 (IX (i : Int) l.length∧TT 1 (CC (L4 (l.getD i ba) z)∧CB (decide ((l.getD i ba).frm = -1) && ((l.getD i ba).name.toList == z.name.toList)) (TT 3 ((i : Int) = (bi l z.name)∧True)) (W6 ((i + 1 : Nat) : Int)∧TT 1 (AG (sD l z) i (i + 1)))))) (TT 2 ((-1) = (bi l z.name)∧True)))))) (.l (sD l z) 0 (fun i => .b 9 (.w 4 [(5,(L4 (l.getD i ba) z).O)] <| .b 16 (.e) (.w 6 [(0,.val (i6 ((i + 1 : Nat) : Int)))] <| .e)) (.e))) Tryz.func74 rfl rfl rfl (by kernel_rfl) ?_
 refine tt ⟨rfl,⟨by omega,fun q hq => by omega⟩,?_⟩
 intro i hinv
 obtain ⟨hi,h3⟩ := hinv
 refine tt (cd (fun hc9 => ?_) (fun hc9 => ?_))
 · refine tt ⟨ix,tt ⟨(DX (l.getD i ba) z),⟨fun hc16 => ?_,fun hc16 => ?_⟩⟩⟩
   · refine tt ⟨?_,oK⟩
     first | exact (cJ (f := r8 l z.name) hc16 h3 (by omega)).symm | exact (dp (f := r8 l z.name) (fun q hq => h3 q (by omega))).symm
   · refine ⟨w6,tt ⟨(i + 1),rfl,?_,(?_ : l.length - (i + 1) < l.length - i)⟩⟩
     · exact ⟨by omega,cK h3 hc16⟩
     · omega
 · refine tt ⟨?_,oK⟩
   first | exact (cJ (f := r8 l z.name) hc16 h3 (by omega)).symm | exact (dp (f := r8 l z.name) (fun q hq => h3 q (by omega))).symm
abbrev Jv (l : List Sm) (z : Sm) : Ct := ⟨81,[(dL 2 mr b8 l),(F6 z)],false,(i6 (bc l z.name))⟩
abbrev sF (l : List Sm) (z : Sm) : Lp (Nat) := iP [0,1,7,8] 0 (fun (i : Nat) => ⟨[(0,(dL 2 mr b8 l)),(1,(F6 z)),(7,(i6 (l.length : Int))),(8,(i6 (i : Int)))],[]⟩) (fun (i : Nat) => i ≤ l.length∧∀ q,q < i → Iw l z.name q = false) (fun (i : Nat) => l.length - i)
theorem HB (l : List Sm) (z : Sm) (hl : l.length ≤ 9223372036854775807) : CC (Jv l z) := by
 refine ah.vc (V := TT 4 (GO (sF l z) 0 (∀ i,(sF l z).inv i → TT 1 (CD ((i : Int) < (l.length : Int)) (TT 5 (IX (i : Int) l.length∧TT 1 (CC (L5 (l.getD i b8) z)∧CB ((l.getD i b8).name.toList == z.name.toList) (TT 3 ((i : Int) = (bc l z.name)∧True)) (W6 ((i + 1 : Nat) : Int)∧TT 1 (AG (sF l z) i (i + 1)))))) (TT 2 ((-1) = (bc l z.name)∧True)))))) (.l (sF l z) 0 (fun i => .b 9 (.w 4 [(5,(L5 (l.getD i b8) z).O)] <| .b 16 (.e) (.w 6 [(0,.val (i6 ((i + 1 : Nat) : Int)))] <| .e)) (.e))) Tryz.func81 rfl rfl rfl (by kernel_rfl) ?_
 refine tt ⟨rfl,⟨by omega,fun q hq => by omega⟩,?_⟩
 intro i hinv
 obtain ⟨hi,h3⟩ := hinv
 refine tt (cd (fun hc9 => ?_) (fun hc9 => ?_))
 · refine tt ⟨ix,tt ⟨(AW (l.getD i b8) z),⟨fun hc16 => ?_,fun hc16 => ?_⟩⟩⟩
   · refine tt ⟨?_,oK⟩
     first | exact (cJ (f := Iw l z.name) hc16 h3 (by omega)).symm | exact (dp (f := Iw l z.name) (fun q hq => h3 q (by omega))).symm
   · refine ⟨w6,tt ⟨(i + 1),rfl,?_,(?_ : l.length - (i + 1) < l.length - i)⟩⟩
     · exact ⟨by omega,cK h3 hc16⟩
     · omega
 · refine tt ⟨?_,oK⟩
   first | exact (cJ (f := Iw l z.name) hc16 h3 (by omega)).symm | exact (dp (f := Iw l z.name) (fun q hq => h3 q (by omega))).symm
abbrev F8 (l : List Ch) (z : Sm) : Ct := ⟨60,[(dL 5 eY ba l),(F5 z)],true,(.tup [(.agg [(dS ((lz l (bi l z.name)).name)),(i6 ((lz l (bi l z.name)).w)),(i6 ((lz l (bi l z.name)).cap)),(i6 ((lz l (bi l z.name)).frm)),(i6 ((lz l (bi l z.name)).dst))]),(i6 (bi l z.name))])⟩
theorem Cp (l : List Ch) (z : Sm) (hl : l.length ≤ 9223372036854775807) : CC (F8 l z) := by
 refine ah.vc (V := TT 4 (CC (Ju l z)∧TT 3 (CD ((bi l z.name) < 0) (TT 7 ((e0 = ((lz l (bi l z.name)).name)∧(0 : Int) = ((lz l (bi l z.name)).w)∧(0 : Int) = ((lz l (bi l z.name)).cap)∧(0 : Int) = ((lz l (bi l z.name)).frm)∧(0 : Int) = ((lz l (bi l z.name)).dst)∧True)∧(bi l z.name) = (bi l z.name)∧True)) (TT 2 (IX (bi l z.name) l.length∧TT 6 ((((l.getD ((bi l z.name).toNat) ba).name) = ((lz l (bi l z.name)).name)∧((l.getD ((bi l z.name).toNat) ba).w) = ((lz l (bi l z.name)).w)∧((l.getD ((bi l z.name).toNat) ba).cap) = ((lz l (bi l z.name)).cap)∧((l.getD ((bi l z.name).toNat) ba).frm) = ((lz l (bi l z.name)).frm)∧((l.getD ((bi l z.name).toNat) ba).dst) = ((lz l (bi l z.name)).dst)∧True)∧(bi l z.name) = (bi l z.name)∧True)))))) (.w 1 [(2,(Ju l z).O)] <| .b 12 (.e) (.e)) Tryz.func60 rfl rfl rfl (by kernel_rfl) ?_
 refine tt ⟨(HA l z om),tt (cd (fun hc12 => ?_) (fun hc12 => ?_))⟩
 · refine tt ⟨⟨?_,?_,?_,?_,?_,oK⟩,rfl,oK⟩
   all_goals (all_goals (first | rfl | (rw [Ck (by omega)]; done) | (rw [zn (by omega)])))
 · have hlt : bi l z.name < l.length := qP
   refine tt ⟨ix,tt ⟨⟨?_,?_,?_,?_,?_,oK⟩,rfl,oK⟩⟩
   all_goals (all_goals (first | rfl | (rw [Ck (by omega)]; done) | (rw [zn (by omega)])))
abbrev F9 (l : List Sm) (z : Sm) : Ct := ⟨66,[(dL 2 mr b8 l),(F6 z)],true,(.tup [(.agg [(dS ((iw l (bc l z.name)).name)),(LI ((iw l (bc l z.name)).words))]),(i6 (bc l z.name))])⟩
theorem Cq (l : List Sm) (z : Sm) (hl : l.length ≤ 9223372036854775807) : CC (F9 l z) := by
 refine ah.vc (V := TT 4 (CC (Jv l z)∧TT 3 (CD ((bc l z.name) < 0) (TT 1 ((True∧(e0 = ((iw l (bc l z.name)).name)∧((iw l (bc l z.name)).words) = []∧True))∧TT 5 ((((iw l (bc l z.name)).name) = ((iw l (bc l z.name)).name)∧((iw l (bc l z.name)).words).map (ae .i64) = ((iw l (bc l z.name)).words).map (ae .i64)∧True)∧(bc l z.name) = (bc l z.name)∧True))) (TT 2 (IX (bc l z.name) l.length∧TT 6 ((((l.getD ((bc l z.name).toNat) b8).name) = ((iw l (bc l z.name)).name)∧((l.getD ((bc l z.name).toNat) b8).words).map (ae .i64) = ((iw l (bc l z.name)).words).map (ae .i64)∧True)∧(bc l z.name) = (bc l z.name)∧True)))))) (.w 1 [(2,(Jv l z).O)] <| .b 12 (.w 4 [(0,.val (.agg [(dS ((iw l (bc l z.name)).name)),(LI ((iw l (bc l z.name)).words))]))] <| .e) (.e)) Tryz.func66 rfl rfl rfl (by kernel_rfl) ?_
 refine tt ⟨(HB l z om),tt (cd (fun hc12 => ?_) (fun hc12 => ?_))⟩
 · exact tt ⟨⟨oK,(by rw [Cl (by omega)]; exact ⟨rfl,rfl,oK⟩)⟩,tt ⟨⟨rfl,rfl,oK⟩,rfl,oK⟩⟩
 · have hlt : bc l z.name < l.length := qP
   refine tt ⟨ix,tt ⟨⟨?_,(congrArg _ (?_ : ((l.getD ((bc l z.name).toNat) b8).words) = ((iw l (bc l z.name)).words))),oK⟩,rfl,oK⟩⟩
   all_goals (all_goals (first | rfl | (rw [Cl (by omega)]; done) | (rw [zo (by omega)])))
abbrev L7 (a b : List Int) : Ct := ⟨67,[(LI a),(LI b)],false,(i6 (lA a b))⟩
abbrev sG (a : List Int) (b : List Int) : Lp (Nat) := iP [0,1,10,11] 0 (fun (i : Nat) => ⟨[(0,(LI a)),(1,(LI b)),(10,(i6 (((min a.length b.length) : Nat) : Int))),(11,(i6 (i : Int)))],[]⟩) (fun (i : Nat) => i ≤ min a.length b.length∧∀ q,q < i → ve a b q = false) (fun (i : Nat) => min a.length b.length - i)
theorem HC (a b : List Int) (ha : a.length ≤ 9223372036854775807) : CC (L7 a b) := by
 refine ah.vc (V := TT 5 ((True∧(uZ (a.length : Int) (b.length : Int)) = (((min a.length b.length) : Nat) : Int))∧TT 1 (GO (sG a b) 0 (∀ i,(sG a b).inv i → TT 1 (CD ((i : Int) < (((min a.length b.length) : Nat) : Int)) (TT 4 (IX (i : Int) a.length∧TT 3 (IX (i : Int) b.length∧TT 2 (CN ((a.getD i 0) = (b.getD i 0)) (TT 3 ((i : Int) = (lA a b)∧True)) (W6 ((i + 1 : Nat) : Int)∧TT 1 (AG (sG a b) i (i + 1))))))) (TT 2 ((-1) = (lA a b)∧True))))))) (.w 1 [(4,.val (i6 (((min a.length b.length) : Nat) : Int)))] <| .l (sG a b) 0 (fun i => .b 12 (.b 22 (.e) (.w 6 [(0,.val (i6 ((i + 1 : Nat) : Int)))] <| .e)) (.e))) Tryz.func67 rfl rfl rfl (by kernel_rfl) ?_
 refine tt ⟨⟨oK,(by unfold uZ; split <;> omega)⟩,tt ⟨rfl,⟨by omega,fun q hq => by omega⟩,?_⟩⟩
 intro i hinv
 obtain ⟨hi,h3⟩ := hinv
 refine tt (cd (fun hc12 => ?_) (fun hc12 => ?_))
 · refine tt ⟨ix,tt ⟨ix,tt (cn (fun hc22 => ?_) (fun hc22 => ?_))⟩⟩
   · refine tt ⟨?_,oK⟩
     first | exact (cJ (f := ve a b) (by unfold ve; rw [decide_eq_false hc22]; rfl) h3 (by omega)).symm | exact (dp (f := ve a b) (fun q hq => h3 q (by omega))).symm
   · refine ⟨w6,tt ⟨(i + 1),rfl,?_,(?_ : min a.length b.length - (i + 1) < min a.length b.length - i)⟩⟩
     · exact ⟨by omega,cK h3 (by unfold ve; rw [decide_eq_true hc22]; rfl)⟩
     · omega
 · refine tt ⟨?_,oK⟩
   first | exact (cJ (f := ve a b) (by unfold ve; rw [decide_eq_false hc22]; rfl) h3 (by omega)).symm | exact (dp (f := ve a b) (fun q hq => h3 q (by omega))).symm
abbrev KF (a b : List Sm) : Ct := ⟨40,[(dL 2 mr b8 a),(dL 2 mr b8 b)],false,(.tup [(dS ((dV a b).name)),(i6 ((dV a b).pos)),(dB ((dV a b).is))])⟩
abbrev gX (a : List Sm) (b : List Sm) : Lp (Nat) := iP [0,1,15,16,17] 0 (fun (i : Nat) => ⟨[(0,(dL 2 mr b8 a)),(1,(dL 2 mr b8 b)),(15,(dL 2 mr b8 a)),(16,(i6 (a.length : Int))),(17,(i6 (i : Int)))],[]⟩) (fun (i : Nat) => i ≤ a.length∧∀ q,q < i → pH a b q = false) (fun (i : Nat) => a.length - i)
theorem wt (a b : List Sm) (ha : a.length ≤ 9223372036854775807) (hb : b.length ≤ 9223372036854775807) (hwa : ∀ i,(a.getD i b8).words.length ≤ 9223372036854775807) : CC (KF a b) := by
 refine ah.vc (V := TT 6 (GO (gX a b) 0 (∀ i,(gX a b).inv i → TT 1 (CD ((i : Int) < (a.length : Int)) (TT 1 (IX (i : Int) a.length∧TT 8 (CC (F9 b (a.getD i b8))∧TT 8 (CC (F9 a (a.getD i b8))∧TT 6 (CS ((bc a (a.getD i b8).name) = (i : Int)) (TT 3 ((True∧(!decide ((bc a (a.getD i b8).name) = (i : Int))) = false)∧TT 3 (CD ((bc b (a.getD i b8).name) < 0) (W6 ((i + 1 : Nat) : Int)∧TT 1 (AG (gX a b) i (i + 1))) (TT 4 (CC (L7 ((a.getD i b8).words) ((iw b (bc b (a.getD i b8).name)).words))∧TT 3 (CD ((lA ((a.getD i b8).words) ((iw b (bc b (a.getD i b8).name)).words)) ≥ 0) (TT 9 ((((a.getD i b8).name) = ((dV a b).name)∧(lA ((a.getD i b8).words) ((iw b (bc b (a.getD i b8).name)).words)) = ((dV a b).pos)∧false = ((dV a b).is)∧True)∧(True∧True∧True∧True))) (W6 ((i + 1 : Nat) : Int)∧TT 1 (AG (gX a b) i (i + 1))))))))) (TT 3 ((True∧(!decide ((bc a (a.getD i b8).name) = (i : Int))) = true)∧TT 3 (W6 ((i + 1 : Nat) : Int)∧TT 1 (AG (gX a b) i (i + 1)))))))))) (TT 6 ((e0 = ((dV a b).name)∧(0 : Int) = ((dV a b).pos)∧true = ((dV a b).is)∧True)∧(True∧True∧True∧True))))))) (.l (gX a b) 0 (fun i => .b 18 (.f 4 0 <| .w 5 [(2,(F9 b (a.getD i b8)).O)] <| .w 6 [(2,(F9 a (a.getD i b8)).O)] <| .s 7 ((bc a (a.getD i b8).name) = (i : Int)) (.w 7 [(3,.val (dB false))] <| .b 41 (.w 11 [(0,.val (i6 ((i + 1 : Nat) : Int)))] <| .e) (.w 8 [(4,(L7 ((a.getD i b8).words) ((iw b (bc b (a.getD i b8).name)).words)).O)] <| .b 48 (.e) (.w 11 [(0,.val (i6 ((i + 1 : Nat) : Int)))] <| .e))) (.w 7 [(3,.val (dB true))] <| .w 11 [(0,.val (i6 ((i + 1 : Nat) : Int)))] <| .e)) (.e))) Tryz.func40 rfl rfl rfl (by kernel_rfl) ?_
 refine tt ⟨rfl,⟨by omega,fun q hq => by omega⟩,?_⟩
 intro i hinv
 obtain ⟨hi,h3⟩ := hinv
 refine tt (cd (fun hc18 => ?_) (fun hc18 => ?_))
 · refine tt ⟨ix,tt ⟨(Cq b (a.getD i b8) hb),tt ⟨(Cq a (a.getD i b8) ha),tt ⟨fun hs0 => ?_,fun hs0 => ?_⟩⟩⟩⟩
   · refine tt ⟨(nF hs0),tt (cd (fun hc41 => ?_) (fun hc41 => ?_))⟩
     · refine ⟨w6,tt ⟨(i + 1),rfl,?_,(?_ : a.length - (i + 1) < a.length - i)⟩⟩
       · exact ⟨by omega,cK h3 (by first | exact sB (by first | exact hs0 | exact hs1 | assumption) | exact ms (by assumption) | exact pI (by assumption))⟩
       · omega
     · refine tt ⟨(HC ((a.getD i b8).words) ((iw b (bc b (a.getD i b8).name)).words) (hwa i)),tt (cd (fun hc48 => ?_) (fun hc48 => ?_))⟩
       · refine tt ⟨⟨?_,?_,?_,oK⟩,⟨oK,oK,oK,oK⟩⟩
         all_goals (all_goals (first | (rw [wq (fun q hq => h3 q (by omega))]; done) | (rw [AV (i := i) (by omega) (xP (by omega) (by omega) (by omega)) h3]; rfl)))
       · refine ⟨w6,tt ⟨(i + 1),rfl,?_,(?_ : a.length - (i + 1) < a.length - i)⟩⟩
         · exact ⟨by omega,cK h3 (by first | exact sB (by first | exact hs0 | exact hs1 | assumption) | exact ms (by assumption) | exact pI (by assumption))⟩
         · omega
   · refine tt ⟨(nT hs0),tt ⟨w6,tt ⟨(i + 1),rfl,?_,(?_ : a.length - (i + 1) < a.length - i)⟩⟩⟩
     · exact ⟨by omega,cK h3 (by first | exact sB (by first | exact hs0 | exact hs1 | assumption) | exact ms (by assumption) | exact pI (by assumption))⟩
     · omega
 · refine tt ⟨⟨?_,?_,?_,oK⟩,⟨oK,oK,oK,oK⟩⟩
   all_goals (all_goals (first | (rw [wq (fun q hq => h3 q (by omega))]; done) | (rw [AV (i := i) (by omega) (xP (by omega) (by omega) (by omega)) h3]; rfl)))
abbrev Jw (a b : List Sm) : Ct := ⟨43,[(dL 2 mr b8 a),(dL 2 mr b8 b),(.fn (.func 44) [] [])],false,(dB (nX a b))⟩
abbrev sH (a : List Sm) (b : List Sm) : Lp (Nat) := iP [1,2,15,16,17] 0 (fun (i : Nat) => ⟨[(1,(dL 2 mr b8 b)),(2,(.fn (.func 44) [] [])),(15,(dL 2 mr b8 a)),(16,(i6 (a.length : Int))),(17,(i6 (i : Int)))],[]⟩) (fun (i : Nat) => i ≤ a.length∧∀ q,q < i → ur a b q = true) (fun (i : Nat) => a.length - i)
theorem HD (a b : List Sm) (ha : a.length ≤ 9223372036854775807) : CC (Jw a b) := by
 refine ah.vc (V := TT 6 (CN ((a.length : Int) = (b.length : Int)) (TT 2 (false = (nX a b)∧True)) (TT 3 (GO (sH a b) 0 (∀ i,(sH a b).inv i → TT 1 (CD ((i : Int) < (a.length : Int)) (TT 1 (IX (i : Int) a.length∧TT 6 (IX (i : Int) b.length∧TT 6 (CC (L6 (a.getD i b8) (b.getD i b8))∧TT 1 (CB (!(((a.getD i b8).name.toList == (b.getD i b8).name.toList) && decide ((a.getD i b8).words.length = (b.getD i b8).words.length))) (TT 2 (false = (nX a b)∧True)) (W6 ((i + 1 : Nat) : Int)∧TT 1 (AG (sH a b) i (i + 1)))))))) (TT 2 (true = (nX a b)∧True)))))))) (.b 14 (.e) (.l (sH a b) 0 (fun i => .b 18 (.w 7 [(3,(L6 (a.getD i b8) (b.getD i b8)).O)] <| .b 30 (.e) (.w 9 [(0,.val (i6 ((i + 1 : Nat) : Int)))] <| .e)) (.e)))) Tryz.func43 rfl rfl rfl (by kernel_rfl) ?_
 refine tt (cn (fun hc14 => ?_) (fun hc14 => ?_))
 · refine tt ⟨?_,oK⟩
   first | exact (xQ (by omega)).symm | exact (sC (i := i) (by omega) (by rw [Bool.not_eq_eq_eq_not,Bool.not_true] at hc30; exact hc30)).symm | exact (pJ (by omega) (fun q hq => h3 q (by omega))).symm
 · refine tt ⟨rfl,⟨by omega,fun q hq => by omega⟩,?_⟩
   intro i hinv
   obtain ⟨hi,h3⟩ := hinv
   refine tt (cd (fun hc18 => ?_) (fun hc18 => ?_))
   · refine tt ⟨ix,tt ⟨ix,tt ⟨(F7 (a.getD i b8) (b.getD i b8)),tt ⟨fun hc30 => ?_,fun hc30 => ?_⟩⟩⟩⟩
     · refine tt ⟨?_,oK⟩
       first | exact (xQ (by omega)).symm | exact (sC (i := i) (by omega) (by rw [Bool.not_eq_eq_eq_not,Bool.not_true] at hc30; exact hc30)).symm | exact (pJ (by omega) (fun q hq => h3 q (by omega))).symm
     · refine ⟨w6,tt ⟨(i + 1),rfl,?_,(?_ : a.length - (i + 1) < a.length - i)⟩⟩
       · exact ⟨by omega,cK h3 (by unfold ur; simpa using hc30)⟩
       · omega
   · refine tt ⟨?_,oK⟩
     first | exact (xQ (by omega)).symm | exact (sC (i := i) (by omega) (by rw [Bool.not_eq_eq_eq_not,Bool.not_true] at hc30; exact hc30)).symm | exact (pJ (by omega) (fun q hq => h3 q (by omega))).symm
abbrev Ga (a b : List Sm) : Ct := ⟨21,[(dL 2 mr b8 a),(dL 2 mr b8 b)],false,(dB (jC a b))⟩
theorem f7 (a b : List Sm) (ha : a.length ≤ 9223372036854775807) (hb : b.length ≤ 9223372036854775807) (hwa : ∀ i,(a.getD i b8).words.length ≤ 9223372036854775807) : CC (Ga a b) := by
 refine ah.vc (V := TT 3 (CC (KF a b)∧TT 7 (CS (((dV a b).is) = true) (TT 1 ((True∧((dV a b).is) = true)∧TT 2 (CC (Jw a b)∧TT 3 ((nX a b) = (jC a b)∧True)))) (TT 1 ((True∧((dV a b).is) = false)∧TT 6 (false = (jC a b)∧True)))))) (.w 1 [(2,(KF a b).O)] <| .s 2 (((dV a b).is) = true) (.w 2 [(1,.val (dB true)),(4,(Jw a b).O)] <| .e) (.w 2 [(1,.val (dB false))] <| .e)) Tryz.func21 rfl rfl rfl (by kernel_rfl) ?_
 refine tt ⟨(wt a b ha hb hwa),tt ⟨fun hs0 => ?_,fun hs0 => ?_⟩⟩
 · refine tt ⟨(bT hs0),tt ⟨(HD a b ha),tt ⟨?_,oK⟩⟩⟩
   first | (rw [Cm (by simpa using hs0)]) | (rw [F3 (by simpa using hs0)]; rfl)
 · refine tt ⟨(bF hs0),tt ⟨?_,oK⟩⟩
   first | (rw [Cm (by simpa using hs0)]) | (rw [F3 (by simpa using hs0)]; rfl)
end Go.Proofs.YtgmpoenfoacofaaGreat
