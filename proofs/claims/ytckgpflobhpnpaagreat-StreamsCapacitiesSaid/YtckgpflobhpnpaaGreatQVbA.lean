/-
  Package bits: widths and values of operations.
-/
import Derived.Test.YtckgpflobhpnpaaGreatQBitP
namespace Go.Proofs.YtckgpflobhpnpaaGreat
open Go.RowKit
set_option linter.unusedVariables false
set_option linter.unusedSimpArgs false
set_option maxRecDepth 100000
abbrev gO (n : Int) : Ct := ⟨126,[(i6 n)],false,(dB (av n))⟩
theorem dh (n : Int) : CC (gO n) := by
 refine ah.vc (V := TT 1 (CS (n ≥ 1) (TT 2 ((True∧(decide (n ≥ 1)) = true)∧TT 5 ((decide (n ≤ 8)) = (av n)∧True))) (TT 2 ((True∧(decide (n ≥ 1)) = false)∧TT 5 (false = (av n)∧True))))) (.s 1 (n ≥ 1) (.w 1 [(2,.val (dB true))] <| .e) (.w 1 [(2,.val (dB false))] <| .e)) Tryz.func126 rfl rfl rfl (by kernel_rfl) ?_
 refine tt ⟨fun hs0 => ?_,fun hs0 => ?_⟩
 · refine tt ⟨(vT hs0),tt ⟨?_,oK⟩⟩
   unfold av; simp; omega
 · refine tt ⟨(vF hs0),tt ⟨?_,oK⟩⟩
   unfold av; simp; omega
abbrev xB (w : Int) : Ct := ⟨118,[(i6 w)],false,(i6 (am w))⟩
theorem tu (w : Int) : CC (xB w) := by
 refine ah.vc (V := TT 1 (CS (w < 0) (TT 2 ((True∧(decide (w < 0)) = true)∧TT 5 ((0 : Int) = (am w)∧True))) (TT 2 ((True∧(decide (w < 0)) = false)∧TT 3 (CD (w > 62) (TT 2 ((0 : Int) = (am w)∧True)) (TT 1 (SH w∧W6 ((2 ^ w.toNat) - 1)∧TT 2 (((2 ^ w.toNat) - 1) = (am w)∧True)))))))) (.s 1 (w < 0) (.w 1 [(2,.val (dB true))] <| .e) (.w 1 [(2,.val (dB false))] <| .b 8 (.e) (.w 3 [(1,.val (i6 (2 ^ w.toNat))),(2,.val (i6 ((2 ^ w.toNat) - 1)))] <| .e))) Tryz.func118 rfl rfl rfl (by kernel_rfl) ?_
 refine tt ⟨fun hs0 => ?_,fun hs0 => ?_⟩
 · refine tt ⟨(vT hs0),tt ⟨?_,oK⟩⟩
   unfold am; first | exact (if_pos (by omega)).symm | exact (if_neg (by omega)).symm
 · refine tt ⟨(vF hs0),tt (cd (fun hc8 => ?_) (fun hc8 => ?_))⟩
   · refine tt ⟨?_,oK⟩
     unfold am; first | exact (if_pos (by omega)).symm | exact (if_neg (by omega)).symm
   · refine tt ⟨sh,⟨(w6 (by have := oO (n := w.toNat) (by omega); omega) (by have := oO (n := w.toNat) (by omega); omega)),tt ⟨?_,oK⟩⟩⟩
     unfold am; first | exact (if_pos (by omega)).symm | exact (if_neg (by omega)).symm
abbrev Fv (b : Bool) : Ct := ⟨138,[(dB b)],false,(i6 (if b = true then 1 else 0))⟩
theorem Fw (b : Bool) : CC (Fv b) := by
 refine ah.vc (V := TT 2 (CB (b) (TT 2 ((1 : Int) = (if b = true then 1 else 0)∧True)) (TT 2 ((0 : Int) = (if b = true then 1 else 0)∧True)))) (.b 3 (.e) (.e)) Tryz.func138 rfl rfl rfl (by kernel_rfl) ?_
 refine tt ⟨fun hc3 => ?_,fun hc3 => ?_⟩
 · refine tt ⟨?_,oK⟩
   first | exact (if_pos hc3).symm | exact (if_neg (by rw [hc3]; simp)).symm
 · refine tt ⟨?_,oK⟩
   first | exact (if_pos hc3).symm | exact (if_neg (by rw [hc3]; simp)).symm
abbrev JZ (n : Int) : Ct := ⟨125,[(i6 n)],false,(dB (!(av n)))⟩
theorem Fx (n : Int) : CC (JZ n) := by
 refine ah.vc (V := TT 2 (CC (gO n)∧TT 3 ((!(av n)) = (!(av n))∧True))) (.w 1 [(1,(gO n).O)] <| .e) Tryz.func125 rfl rfl rfl (by kernel_rfl) ?_
 exact tt ⟨(dh n),tt ⟨rfl,oK⟩⟩
abbrev J0 (ws : List Int) : Ct := ⟨106,[(LI ws),(.fn (.func 125) [] [])],false,(i6 (rM 0 ws))⟩
abbrev qr (ws : List Int) : Lp (Nat) := pC [0,1,7,8] 0 (fun (k : Nat) => ⟨[(0,(LI ws)),(1,(.fn (.func 125) [] [])),(7,(i6 (ws.length : Int))),(8,(i6 (k : Int)))],[]⟩) (fun (k : Nat) => k ≤ ws.length∧rM k (ws.drop k) = rM 0 ws) (fun (k : Nat) => ws.length - k)
theorem Fy (ws : List Int) (hl : ws.length ≤ 9223372036854775807) : CC (J0 ws) := by
 refine ah.vc (V := TT 4 (GO (qr ws) 0 (∀ k,(qr ws).inv k → TT 1 (CD ((k : Int) < (ws.length : Int)) (TT 5 (IX (k : Int) ws.length∧TT 1 (CC (JZ (ws.getD k 0))∧CB (!(av (ws.getD k 0))) (TT 3 ((k : Int) = (rM 0 ws)∧True)) (W6 ((k + 1 : Nat) : Int)∧TT 1 (AG (qr ws) k (k + 1)))))) (TT 2 ((-1) = (rM 0 ws)∧True)))))) (.l (qr ws) 0 (fun k => .b 9 (.w 4 [(5,(JZ (ws.getD k 0)).O)] <| .b 16 (.e) (.w 6 [(0,.val (i6 ((k + 1 : Nat) : Int)))] <| .e)) (.e))) Tryz.func106 rfl rfl rfl (by kernel_rfl) ?_
 refine tt ⟨rfl,⟨by omega,by rw [List.drop_zero]⟩,?_⟩
 intro k hinv
 obtain ⟨hk,hx⟩ := hinv
 refine tt (cd (fun hc9 => ?_) (fun hc9 => ?_))
 · refine tt ⟨ix,tt ⟨(Fx (ws.getD k 0)),⟨fun hc16 => ?_,fun hc16 => ?_⟩⟩⟩
   · refine tt ⟨?_,oK⟩
     rw [← hx,wn (show k < ws.length by omega),if_neg (by simpa using hc16)]
   · refine ⟨w6,tt ⟨(k + 1),rfl,?_,(?_ : ws.length - (k + 1) < ws.length - k)⟩⟩
     · refine ⟨by omega,?_⟩
       rw [← hx,wn (show k < ws.length by omega),if_pos (by simpa using hc16)]
     · omega
 · refine tt ⟨?_,oK⟩
   rw [← hx,List.drop_of_length_le (by omega)]; rfl
abbrev H3 (ws : List Int) : Ct := ⟨82,[(LI ws),(.fn (.func 125) [] [])],false,(dB (!(ws.all av)))⟩
theorem ji (ws : List Int) (hl : ws.length ≤ 9223372036854775807) : CC (H3 ws) := by
 refine ah.vc (V := TT 3 (CC (J0 ws)∧TT 3 ((decide ((rM 0 ws) ≥ 0)) = (!(ws.all av))∧True))) (.w 1 [(2,(J0 ws).O)] <| .e) Tryz.func82 rfl rfl rfl (by kernel_rfl) ?_
 refine tt ⟨(Fy ws om),tt ⟨?_,oK⟩⟩
 rw [← wm ws 0]
abbrev M4 (ws xs : List Int) (k w : Int) : Ct := ⟨127,[(.agg [(LI ws),(LI xs),(i6 k),(i6 w)])],false,(i6 (ws.getD 0 0))⟩
theorem FA (ws xs : List Int) (k w : Int) (hl : ws.length = 1) (hf : ws.all av = true) : CC (M4 ws xs k w) := by
 have f0 : 0 < ws.length → 1 ≤ ws.getD 0 0∧ws.getD 0 0 ≤ 8 := fun h => aA hf h
 have f1 : 1 < ws.length → 1 ≤ ws.getD 1 0∧ws.getD 1 0 ≤ 8 := fun h => aA hf h
 have f2 : 2 < ws.length → 1 ≤ ws.getD 2 0∧ws.getD 2 0 ≤ 8 := fun h => aA hf h
 refine ah.vc (V := TT 4 (IX 0 ws.length∧TT 3 ((ws.getD 0 0) = (ws.getD 0 0)∧True))) (.e) Tryz.func127 rfl rfl rfl (by kernel_rfl) ?_
 exact tt ⟨ix,tt ⟨rfl,oK⟩⟩
abbrev J1 (ws xs : List Int) (k w : Int) : Ct := ⟨130,[(.agg [(LI ws),(LI xs),(i6 k),(i6 w)])],false,(i6 (bU ws))⟩
theorem jS (ws xs : List Int) (k w : Int) (hl : ws.length = 2) (hf : ws.all av = true) : CC (J1 ws xs k w) := by
 have f0 : 0 < ws.length → 1 ≤ ws.getD 0 0∧ws.getD 0 0 ≤ 8 := fun h => aA hf h
 have f1 : 1 < ws.length → 1 ≤ ws.getD 1 0∧ws.getD 1 0 ≤ 8 := fun h => aA hf h
 have f2 : 2 < ws.length → 1 ≤ ws.getD 2 0∧ws.getD 2 0 ≤ 8 := fun h => aA hf h
 refine ah.vc (V := TT 4 (IX 0 ws.length∧TT 3 (IX 1 ws.length∧TT 2 (CN ((ws.getD 0 0) = (ws.getD 1 0)) (TT 2 ((0 : Int) = (bU ws)∧True)) (TT 2 (IX 0 ws.length∧TT 3 ((ws.getD 0 0) = (bU ws)∧True))))))) (.b 11 (.e) (.e)) Tryz.func130 rfl rfl rfl (by kernel_rfl) ?_
 refine tt ⟨ix,tt ⟨ix,tt (cn (fun hc11 => ?_) (fun hc11 => ?_))⟩⟩
 · refine tt ⟨?_,oK⟩
   first | exact (if_pos (by simpa using hc11)).symm | exact (if_neg (by simpa using hc11)).symm
 · refine tt ⟨ix,tt ⟨?_,oK⟩⟩
   first | exact (if_pos (by simpa using hc11)).symm | exact (if_neg (by simpa using hc11)).symm
abbrev M5 (ws xs : List Int) (k w : Int) : Ct := ⟨136,[(.agg [(LI ws),(LI xs),(i6 k),(i6 w)])],false,(i6 (min (bU ws) 1))⟩
theorem FB (ws xs : List Int) (k w : Int) (hl : ws.length = 2) (hf : ws.all av = true) : CC (M5 ws xs k w) := by
 have f0 : 0 < ws.length → 1 ≤ ws.getD 0 0∧ws.getD 0 0 ≤ 8 := fun h => aA hf h
 have f1 : 1 < ws.length → 1 ≤ ws.getD 1 0∧ws.getD 1 0 ≤ 8 := fun h => aA hf h
 have f2 : 2 < ws.length → 1 ≤ ws.getD 2 0∧ws.getD 2 0 ≤ 8 := fun h => aA hf h
 refine ah.vc (V := TT 3 (CC (J1 ws xs k w)∧(True∧(pX (bU ws) 1) = (min (bU ws) 1))∧TT 2 ((min (bU ws) 1) = (min (bU ws) 1)∧True))) (.w 1 [(1,(J1 ws xs k w).O),(2,.val (i6 (min (bU ws) 1)))] <| .e) Tryz.func136 rfl rfl rfl (by kernel_rfl) ?_
 exact tt ⟨(jS ws xs k w om hf),⟨⟨oK,(by unfold pX; split <;> omega)⟩,tt ⟨rfl,oK⟩⟩⟩
abbrev M6 (ws xs : List Int) (k w : Int) : Ct := ⟨140,[(.agg [(LI ws),(LI xs),(i6 k),(i6 w)])],false,(i6 (if av w = false ∨ k < 0 ∨ am w < k then 0 else w))⟩
theorem DN (ws xs : List Int) (k w : Int) (hl : ws.length = 0) (hf : ws.all av = true) : CC (M6 ws xs k w) := by
 have f0 : 0 < ws.length → 1 ≤ ws.getD 0 0∧ws.getD 0 0 ≤ 8 := fun h => aA hf h
 have f1 : 1 < ws.length → 1 ≤ ws.getD 1 0∧ws.getD 1 0 ≤ 8 := fun h => aA hf h
 have f2 : 2 < ws.length → 1 ≤ ws.getD 2 0∧ws.getD 2 0 ≤ 8 := fun h => aA hf h
 refine ah.vc (V := TT 2 (CS ((av w) = true) (CS (k < 0) (TT 2 (CC (gO w)∧TT 1 ((True∧(!(av w)) = false)∧TT 4 ((True∧(decide (k < 0)) = true)∧TT 3 ((((0 : Int) = (if av w = false ∨ k < 0 ∨ am w < k then 0 else w)))∧True))))) (TT 2 (CC (gO w)∧TT 1 ((True∧(!(av w)) = false)∧TT 4 ((True∧(decide (k < 0)) = false)∧TT 4 (CC (xB w)∧TT 2 (CD (k > (am w)) (TT 2 ((((0 : Int) = (if av w = false ∨ k < 0 ∨ am w < k then 0 else w)))∧True)) (TT 4 (((w = (if av w = false ∨ k < 0 ∨ am w < k then 0 else w)))∧True))))))))) (TT 2 (CC (gO w)∧TT 1 ((True∧(!(av w)) = true)∧TT 5 ((((0 : Int) = (if av w = false ∨ k < 0 ∨ am w < k then 0 else w)))∧True)))))) (.s 1 ((av w) = true) (.s 1 (k < 0) (.w 1 [(2,(gO w).O),(4,.val (dB false)),(9,.val (dB true))] <| .e) (.w 1 [(2,(gO w).O),(4,.val (dB false)),(9,.val (dB false)),(14,(xB w).O)] <| .b 19 (.e) (.e))) (.w 1 [(2,(gO w).O),(4,.val (dB true))] <| .e)) Tryz.func140 rfl rfl rfl (by kernel_rfl) ?_
 refine tt ⟨fun hs0 => ?_,fun hs0 => ?_⟩
 · refine ⟨fun hs1 => ?_,fun hs1 => ?_⟩
   · refine tt ⟨(dh w),tt ⟨(mF hs0),tt ⟨(vT hs1),tt ⟨?_,oK⟩⟩⟩⟩
     first | exact (if_pos (by first | assumption | omega)).symm | exact (if_neg (by first | assumption | omega)).symm | (split <;> first | rfl | omega | (simp_all; done) | (simp_all; omega))
   · refine tt ⟨(dh w),tt ⟨(mF hs0),tt ⟨(vF hs1),tt ⟨(tu w),tt (cd (fun hc19 => ?_) (fun hc19 => ?_))⟩⟩⟩⟩
     · refine tt ⟨?_,oK⟩
       first | exact (if_pos (by first | assumption | omega)).symm | exact (if_neg (by first | assumption | omega)).symm | (split <;> first | rfl | omega | (simp_all; done) | (simp_all; omega))
     · refine tt ⟨?_,oK⟩
       first | exact (if_pos (by first | assumption | omega)).symm | exact (if_neg (by first | assumption | omega)).symm | (split <;> first | rfl | omega | (simp_all; done) | (simp_all; omega))
 · refine tt ⟨(dh w),tt ⟨(mT hs0),tt ⟨?_,oK⟩⟩⟩
   first | exact (if_pos (by first | assumption | omega)).symm | exact (if_neg (by first | assumption | omega)).symm | (split <;> first | rfl | omega | (simp_all; done) | (simp_all; omega))
abbrev M7 (ws xs : List Int) (k w : Int) : Ct := ⟨142,[(.agg [(LI ws),(LI xs),(i6 k),(i6 w)])],false,(i6 (if ws.getD 0 0 ≠ 1 ∨ ws.getD 1 0 ≠ ws.getD 2 0 then 0 else ws.getD 1 0))⟩
theorem H4 (ws xs : List Int) (k w : Int) (hl : ws.length = 3) (hf : ws.all av = true) : CC (M7 ws xs k w) := by
 have f0 : 0 < ws.length → 1 ≤ ws.getD 0 0∧ws.getD 0 0 ≤ 8 := fun h => aA hf h
 have f1 : 1 < ws.length → 1 ≤ ws.getD 1 0∧ws.getD 1 0 ≤ 8 := fun h => aA hf h
 have f2 : 2 < ws.length → 1 ≤ ws.getD 2 0∧ws.getD 2 0 ≤ 8 := fun h => aA hf h
 refine ah.vc (V := TT 2 (CS ((ws.getD 0 0) = 1) (TT 2 (IX 0 ws.length∧TT 2 ((True∧(!decide ((ws.getD 0 0) = 1)) = false)∧TT 2 (IX 1 ws.length∧TT 3 (IX 2 ws.length∧TT 3 (CN ((ws.getD 1 0) = (ws.getD 2 0)) (TT 2 ((((0 : Int) = (if ws.getD 0 0 ≠ 1 ∨ ws.getD 1 0 ≠ ws.getD 2 0 then 0 else ws.getD 1 0)))∧True)) (TT 2 (IX 1 ws.length∧TT 3 ((((ws.getD 1 0) = (if ws.getD 0 0 ≠ 1 ∨ ws.getD 1 0 ≠ ws.getD 2 0 then 0 else ws.getD 1 0)))∧True))))))))) (TT 2 (IX 0 ws.length∧TT 2 ((True∧(!decide ((ws.getD 0 0) = 1)) = true)∧TT 3 ((((0 : Int) = (if ws.getD 0 0 ≠ 1 ∨ ws.getD 1 0 ≠ ws.getD 2 0 then 0 else ws.getD 1 0)))∧True)))))) (.s 1 ((ws.getD 0 0) = 1) (.w 1 [(5,.val (dB false))] <| .b 18 (.e) (.e)) (.w 1 [(5,.val (dB true))] <| .e)) Tryz.func142 rfl rfl rfl (by kernel_rfl) ?_
 refine tt ⟨fun hs0 => ?_,fun hs0 => ?_⟩
 · refine tt ⟨ix,tt ⟨(nF hs0),tt ⟨ix,tt ⟨ix,tt (cn (fun hc18 => ?_) (fun hc18 => ?_))⟩⟩⟩⟩
   · refine tt ⟨?_,oK⟩
     first | exact (if_pos (by first | assumption | omega)).symm | exact (if_neg (by first | assumption | omega)).symm | (split <;> first | rfl | omega | (simp_all; done) | (simp_all; omega))
   · refine tt ⟨ix,tt ⟨?_,oK⟩⟩
     first | exact (if_pos (by first | assumption | omega)).symm | exact (if_neg (by first | assumption | omega)).symm | (split <;> first | rfl | omega | (simp_all; done) | (simp_all; omega))
 · refine tt ⟨ix,tt ⟨(nT hs0),tt ⟨?_,oK⟩⟩⟩
   first | exact (if_pos (by first | assumption | omega)).symm | exact (if_neg (by first | assumption | omega)).symm | (split <;> first | rfl | omega | (simp_all; done) | (simp_all; omega))
abbrev M8 (ws xs : List Int) (k w : Int) : Ct := ⟨144,[(.agg [(LI ws),(LI xs),(i6 k),(i6 w)])],false,(i6 (ws.getD 0 0 + ws.getD 1 0))⟩
theorem H5 (ws xs : List Int) (k w : Int) (hl : ws.length = 2) (hf : ws.all av = true) : CC (M8 ws xs k w) := by
 have f0 : 0 < ws.length → 1 ≤ ws.getD 0 0∧ws.getD 0 0 ≤ 8 := fun h => aA hf h
 have f1 : 1 < ws.length → 1 ≤ ws.getD 1 0∧ws.getD 1 0 ≤ 8 := fun h => aA hf h
 have f2 : 2 < ws.length → 1 ≤ ws.getD 2 0∧ws.getD 2 0 ≤ 8 := fun h => aA hf h
 refine ah.vc (V := TT 4 (IX 0 ws.length∧TT 3 (IX 1 ws.length∧TT 1 (W6 ((ws.getD 0 0) + (ws.getD 1 0))∧TT 2 (((ws.getD 0 0) + (ws.getD 1 0)) = (ws.getD 0 0 + ws.getD 1 0)∧True))))) (.w 1 [(8,.val (i6 ((ws.getD 0 0) + (ws.getD 1 0))))] <| .e) Tryz.func144 rfl rfl rfl (by kernel_rfl) ?_
 refine tt ⟨ix,tt ⟨ix,tt ⟨w6,tt ⟨?_,oK⟩⟩⟩⟩
 first | rfl | omega | (simp; first | done | omega)
abbrev M9 (ws xs : List Int) (k w : Int) : Ct := ⟨146,[(.agg [(LI ws),(LI xs),(i6 k),(i6 w)])],false,(i6 (if av w = false ∨ k < 0 ∨ ws.getD 0 0 - w < k then 0 else w))⟩
theorem DP (ws xs : List Int) (k w : Int) (hl : ws.length = 1) (hf : ws.all av = true) : CC (M9 ws xs k w) := by
 have f0 : 0 < ws.length → 1 ≤ ws.getD 0 0∧ws.getD 0 0 ≤ 8 := fun h => aA hf h
 have f1 : 1 < ws.length → 1 ≤ ws.getD 1 0∧ws.getD 1 0 ≤ 8 := fun h => aA hf h
 have f2 : 2 < ws.length → 1 ≤ ws.getD 2 0∧ws.getD 2 0 ≤ 8 := fun h => aA hf h
 refine ah.vc (V := TT 2 (CS ((av w) = true) (CS (k < 0) (TT 2 (CC (gO w)∧TT 1 ((True∧(!(av w)) = false)∧TT 4 ((True∧(decide (k < 0)) = true)∧TT 3 ((((0 : Int) = (if av w = false ∨ k < 0 ∨ ws.getD 0 0 - w < k then 0 else w)))∧True))))) (TT 2 (CC (gO w)∧TT 1 ((True∧(!(av w)) = false)∧TT 4 ((True∧(decide (k < 0)) = false)∧TT 4 (IX 0 ws.length∧TT 3 (W6 ((ws.getD 0 0) - w)∧TT 2 (CD (k > ((ws.getD 0 0) - w)) (TT 2 ((((0 : Int) = (if av w = false ∨ k < 0 ∨ ws.getD 0 0 - w < k then 0 else w)))∧True)) (TT 4 (((w = (if av w = false ∨ k < 0 ∨ ws.getD 0 0 - w < k then 0 else w)))∧True)))))))))) (TT 2 (CC (gO w)∧TT 1 ((True∧(!(av w)) = true)∧TT 5 ((((0 : Int) = (if av w = false ∨ k < 0 ∨ ws.getD 0 0 - w < k then 0 else w)))∧True)))))) (.s 1 ((av w) = true) (.s 1 (k < 0) (.w 1 [(2,(gO w).O),(4,.val (dB false)),(9,.val (dB true))] <| .e) (.w 1 [(2,(gO w).O),(4,.val (dB false)),(9,.val (dB false)),(18,.val (i6 ((ws.getD 0 0) - w)))] <| .b 23 (.e) (.e))) (.w 1 [(2,(gO w).O),(4,.val (dB true))] <| .e)) Tryz.func146 rfl rfl rfl (by kernel_rfl) ?_
 refine tt ⟨fun hs0 => ?_,fun hs0 => ?_⟩
 · refine ⟨fun hs1 => ?_,fun hs1 => ?_⟩
   · refine tt ⟨(dh w),tt ⟨(mF hs0),tt ⟨(vT hs1),tt ⟨?_,oK⟩⟩⟩⟩
     first | exact (if_pos (by first | assumption | omega)).symm | exact (if_neg (by first | assumption | omega)).symm | (split <;> first | rfl | omega | (simp_all; done) | (simp_all; omega))
   · refine tt ⟨(dh w),tt ⟨(mF hs0),tt ⟨(vF hs1),tt ⟨ix,tt ⟨(w6 (by have := bo.1 (show av w = true by simp_all); omega) (by have := bo.1 (show av w = true by simp_all); omega)),tt (cd (fun hc23 => ?_) (fun hc23 => ?_))⟩⟩⟩⟩⟩
     · refine tt ⟨?_,oK⟩
       first | exact (if_pos (by first | assumption | omega)).symm | exact (if_neg (by first | assumption | omega)).symm | (split <;> first | rfl | omega | (simp_all; done) | (simp_all; omega))
     · refine tt ⟨?_,oK⟩
       first | exact (if_pos (by first | assumption | omega)).symm | exact (if_neg (by first | assumption | omega)).symm | (split <;> first | rfl | omega | (simp_all; done) | (simp_all; omega))
 · refine tt ⟨(dh w),tt ⟨(mT hs0),tt ⟨?_,oK⟩⟩⟩
   first | exact (if_pos (by first | assumption | omega)).symm | exact (if_neg (by first | assumption | omega)).symm | (split <;> first | rfl | omega | (simp_all; done) | (simp_all; omega))
abbrev Na (ws xs : List Int) (k w : Int) : Ct := ⟨148,[(.agg [(LI ws),(LI xs),(i6 k),(i6 w)])],false,(i6 (if w < ws.getD 0 0 then 0 else w))⟩
theorem H6 (ws xs : List Int) (k w : Int) (hl : ws.length = 1) (hf : ws.all av = true) : CC (Na ws xs k w) := by
 have f0 : 0 < ws.length → 1 ≤ ws.getD 0 0∧ws.getD 0 0 ≤ 8 := fun h => aA hf h
 have f1 : 1 < ws.length → 1 ≤ ws.getD 1 0∧ws.getD 1 0 ≤ 8 := fun h => aA hf h
 have f2 : 2 < ws.length → 1 ≤ ws.getD 2 0∧ws.getD 2 0 ≤ 8 := fun h => aA hf h
 refine ah.vc (V := TT 6 (IX 0 ws.length∧TT 2 (CD (w < (ws.getD 0 0)) (TT 2 ((0 : Int) = (if w < ws.getD 0 0 then 0 else w)∧True)) (TT 4 (w = (if w < ws.getD 0 0 then 0 else w)∧True))))) (.b 9 (.e) (.e)) Tryz.func148 rfl rfl rfl (by kernel_rfl) ?_
 refine tt ⟨ix,tt (cd (fun hc9 => ?_) (fun hc9 => ?_))⟩
 · refine tt ⟨?_,oK⟩
   first | exact (if_pos (by first | assumption | omega)).symm | exact (if_neg (by first | assumption | omega)).symm | (split <;> first | rfl | omega | (simp_all; done) | (simp_all; omega))
 · refine tt ⟨?_,oK⟩
   first | exact (if_pos (by first | assumption | omega)).symm | exact (if_neg (by first | assumption | omega)).symm | (split <;> first | rfl | omega | (simp_all; done) | (simp_all; omega))
end Go.Proofs.YtckgpflobhpnpaaGreat
