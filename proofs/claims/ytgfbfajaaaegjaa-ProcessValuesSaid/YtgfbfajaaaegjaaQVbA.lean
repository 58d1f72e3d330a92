/-
  Package bits: widths and values of operations.
-/
import Derived.Test.YtgfbfajaaaegjaaQVp
import Derived.Test.YtgfbfajaaaegjaaQBitP
namespace Go.Proofs.Ytgfbfajaaaegjaa
open Go.RowKit
set_option linter.unusedVariables false
set_option linter.unusedSimpArgs false
set_option maxRecDepth 100000
abbrev pZ (n : Int) : Ct := ⟨75,[(i6 n)],false,(dB (ai n))⟩
theorem dh (n : Int) : CC (pZ n) := by
 refine ah.vc (V := TT 1 (CS (n ≥ 1) (TT 2 ((True∧(decide (n ≥ 1)) = true)∧TT 5 ((decide (n ≤ 8)) = (ai n)∧True))) (TT 2 ((True∧(decide (n ≥ 1)) = false)∧TT 5 (false = (ai n)∧True))))) (.s 1 (n ≥ 1) (.w 1 [(2,.val (dB true))] <| .e) (.w 1 [(2,.val (dB false))] <| .e)) Try.func75 rfl rfl rfl (by kernel_rfl) ?_
 refine tt ⟨fun hs0 => ?_,fun hs0 => ?_⟩
 · refine tt ⟨(vT hs0),tt ⟨?_,oK⟩⟩
   unfold ai; simp; omega
 · refine tt ⟨(vF hs0),tt ⟨?_,oK⟩⟩
   unfold ai; simp; omega
abbrev zM (w : Int) : Ct := ⟨54,[(i6 w)],false,(i6 (ae w))⟩
theorem na (w : Int) : CC (zM w) := by
 refine ah.vc (V := TT 1 (CS (w < 0) (TT 2 ((True∧(decide (w < 0)) = true)∧TT 5 ((0 : Int) = (ae w)∧True))) (TT 2 ((True∧(decide (w < 0)) = false)∧TT 3 (CD (w > 62) (TT 2 ((0 : Int) = (ae w)∧True)) (TT 1 (SH w∧W6 ((2 ^ w.toNat) - 1)∧TT 2 (((2 ^ w.toNat) - 1) = (ae w)∧True)))))))) (.s 1 (w < 0) (.w 1 [(2,.val (dB true))] <| .e) (.w 1 [(2,.val (dB false))] <| .b 8 (.e) (.w 3 [(1,.val (i6 (2 ^ w.toNat))),(2,.val (i6 ((2 ^ w.toNat) - 1)))] <| .e))) Try.func54 rfl rfl rfl (by kernel_rfl) ?_
 refine tt ⟨fun hs0 => ?_,fun hs0 => ?_⟩
 · refine tt ⟨(vT hs0),tt ⟨?_,oK⟩⟩
   unfold ae; first | exact (if_pos (by omega)).symm | exact (if_neg (by omega)).symm
 · refine tt ⟨(vF hs0),tt (cd (fun hc8 => ?_) (fun hc8 => ?_))⟩
   · refine tt ⟨?_,oK⟩
     unfold ae; first | exact (if_pos (by omega)).symm | exact (if_neg (by omega)).symm
   · refine tt ⟨sh,⟨(w6 (by have := dV (n := w.toNat) (by omega); omega) (by have := dV (n := w.toNat) (by omega); omega)),tt ⟨?_,oK⟩⟩⟩
     unfold ae; first | exact (if_pos (by omega)).symm | exact (if_neg (by omega)).symm
abbrev DN (b : Bool) : Ct := ⟨89,[(dB b)],false,(i6 (if b = true then 1 else 0))⟩
theorem zN (b : Bool) : CC (DN b) := by
 refine ah.vc (V := TT 2 (CB (b) (TT 2 ((1 : Int) = (if b = true then 1 else 0)∧True)) (TT 2 ((0 : Int) = (if b = true then 1 else 0)∧True)))) (.b 3 (.e) (.e)) Try.func89 rfl rfl rfl (by kernel_rfl) ?_
 refine tt ⟨fun hc3 => ?_,fun hc3 => ?_⟩
 · refine tt ⟨?_,oK⟩
   first | exact (if_pos hc3).symm | exact (if_neg (by rw [hc3]; simp)).symm
 · refine tt ⟨?_,oK⟩
   first | exact (if_pos hc3).symm | exact (if_neg (by rw [hc3]; simp)).symm
abbrev EC (n : Int) : Ct := ⟨74,[(i6 n)],false,(dB (!(ai n)))⟩
theorem zO (n : Int) : CC (EC n) := by
 refine ah.vc (V := TT 2 (CC (pZ n)∧TT 3 ((!(ai n)) = (!(ai n))∧True))) (.w 1 [(1,(pZ n).O)] <| .e) Try.func74 rfl rfl rfl (by kernel_rfl) ?_
 exact tt ⟨(dh n),tt ⟨rfl,oK⟩⟩
abbrev Cz (ws : List Int) : Ct := ⟨101,[(LI ws),(.fn (.func 74) [] [])],false,(i6 (oT 0 ws))⟩
abbrev nc (ws : List Int) : Lp (Nat) := io [0,1,7,8] 0 (fun (k : Nat) => ⟨[(0,(LI ws)),(1,(.fn (.func 74) [] [])),(7,(i6 (ws.length : Int))),(8,(i6 (k : Int)))],[]⟩) (fun (k : Nat) => k ≤ ws.length∧oT k (ws.drop k) = oT 0 ws) (fun (k : Nat) => ws.length - k)
theorem zP (ws : List Int) (hl : ws.length ≤ 9223372036854775807) : CC (Cz ws) := by
 refine ah.vc (V := TT 4 (GO (nc ws) 0 (∀ k,(nc ws).inv k → TT 1 (CD ((k : Int) < (ws.length : Int)) (TT 5 (IX (k : Int) ws.length∧TT 1 (CC (EC (ws.getD k 0))∧CB (!(ai (ws.getD k 0))) (TT 3 ((k : Int) = (oT 0 ws)∧True)) (W6 ((k + 1 : Nat) : Int)∧TT 1 (AG (nc ws) k (k + 1)))))) (TT 2 ((-1) = (oT 0 ws)∧True)))))) (.l (nc ws) 0 (fun k => .b 9 (.w 4 [(5,(EC (ws.getD k 0)).O)] <| .b 16 (.e) (.w 6 [(0,.val (i6 ((k + 1 : Nat) : Int)))] <| .e)) (.e))) Try.func101 rfl rfl rfl (by kernel_rfl) ?_
 refine tt ⟨rfl,⟨by omega,by rw [List.drop_zero]⟩,?_⟩
 intro k hinv
 obtain ⟨hk,hx⟩ := hinv
 refine tt (cd (fun hc9 => ?_) (fun hc9 => ?_))
 · refine tt ⟨ix,tt ⟨(zO (ws.getD k 0)),⟨fun hc16 => ?_,fun hc16 => ?_⟩⟩⟩
   · refine tt ⟨?_,oK⟩
     rw [← hx,s7 (show k < ws.length by omega),if_neg (by simpa using hc16)]
   · refine ⟨w6,tt ⟨(k + 1),rfl,?_,(?_ : ws.length - (k + 1) < ws.length - k)⟩⟩
     · refine ⟨by omega,?_⟩
       rw [← hx,s7 (show k < ws.length by omega),if_pos (by simpa using hc16)]
     · omega
 · refine tt ⟨?_,oK⟩
   rw [← hx,List.drop_of_length_le (by omega)]; rfl
abbrev Bc (ws : List Int) : Ct := ⟨73,[(LI ws),(.fn (.func 74) [] [])],false,(dB (!(ws.all ai)))⟩
theorem hD (ws : List Int) (hl : ws.length ≤ 9223372036854775807) : CC (Bc ws) := by
 refine ah.vc (V := TT 3 (CC (Cz ws)∧TT 3 ((decide ((oT 0 ws) ≥ 0)) = (!(ws.all ai))∧True))) (.w 1 [(2,(Cz ws).O)] <| .e) Try.func73 rfl rfl rfl (by kernel_rfl) ?_
 refine tt ⟨(zP ws om),tt ⟨?_,oK⟩⟩
 rw [← s6 ws 0]
abbrev E6 (ws xs : List Int) (k w : Int) : Ct := ⟨78,[(.agg [(LI ws),(LI xs),(i6 k),(i6 w)])],false,(i6 (ws.getD 0 0))⟩
theorem zQ (ws xs : List Int) (k w : Int) (hl : ws.length = 1) (hf : ws.all ai = true) : CC (E6 ws xs k w) := by
 have f0 : 0 < ws.length → 1 ≤ ws.getD 0 0∧ws.getD 0 0 ≤ 8 := fun h => aq hf h
 have f1 : 1 < ws.length → 1 ≤ ws.getD 1 0∧ws.getD 1 0 ≤ 8 := fun h => aq hf h
 have f2 : 2 < ws.length → 1 ≤ ws.getD 2 0∧ws.getD 2 0 ≤ 8 := fun h => aq hf h
 refine ah.vc (V := TT 4 (IX 0 ws.length∧TT 3 ((ws.getD 0 0) = (ws.getD 0 0)∧True))) (.e) Try.func78 rfl rfl rfl (by kernel_rfl) ?_
 exact tt ⟨ix,tt ⟨rfl,oK⟩⟩
abbrev ED (ws xs : List Int) (k w : Int) : Ct := ⟨81,[(.agg [(LI ws),(LI xs),(i6 k),(i6 w)])],false,(i6 (bt ws))⟩
theorem iM (ws xs : List Int) (k w : Int) (hl : ws.length = 2) (hf : ws.all ai = true) : CC (ED ws xs k w) := by
 have f0 : 0 < ws.length → 1 ≤ ws.getD 0 0∧ws.getD 0 0 ≤ 8 := fun h => aq hf h
 have f1 : 1 < ws.length → 1 ≤ ws.getD 1 0∧ws.getD 1 0 ≤ 8 := fun h => aq hf h
 have f2 : 2 < ws.length → 1 ≤ ws.getD 2 0∧ws.getD 2 0 ≤ 8 := fun h => aq hf h
 refine ah.vc (V := TT 4 (IX 0 ws.length∧TT 3 (IX 1 ws.length∧TT 2 (CN ((ws.getD 0 0) = (ws.getD 1 0)) (TT 2 ((0 : Int) = (bt ws)∧True)) (TT 2 (IX 0 ws.length∧TT 3 ((ws.getD 0 0) = (bt ws)∧True))))))) (.b 11 (.e) (.e)) Try.func81 rfl rfl rfl (by kernel_rfl) ?_
 refine tt ⟨ix,tt ⟨ix,tt (cn (fun hc11 => ?_) (fun hc11 => ?_))⟩⟩
 · refine tt ⟨?_,oK⟩
   first | exact (if_pos (by simpa using hc11)).symm | exact (if_neg (by simpa using hc11)).symm
 · refine tt ⟨ix,tt ⟨?_,oK⟩⟩
   first | exact (if_pos (by simpa using hc11)).symm | exact (if_neg (by simpa using hc11)).symm
abbrev E7 (ws xs : List Int) (k w : Int) : Ct := ⟨87,[(.agg [(LI ws),(LI xs),(i6 k),(i6 w)])],false,(i6 (min (bt ws) 1))⟩
theorem zR (ws xs : List Int) (k w : Int) (hl : ws.length = 2) (hf : ws.all ai = true) : CC (E7 ws xs k w) := by
 have f0 : 0 < ws.length → 1 ≤ ws.getD 0 0∧ws.getD 0 0 ≤ 8 := fun h => aq hf h
 have f1 : 1 < ws.length → 1 ≤ ws.getD 1 0∧ws.getD 1 0 ≤ 8 := fun h => aq hf h
 have f2 : 2 < ws.length → 1 ≤ ws.getD 2 0∧ws.getD 2 0 ≤ 8 := fun h => aq hf h
 refine ah.vc (V := TT 3 (CC (ED ws xs k w)∧(True∧(uL (bt ws) 1) = (min (bt ws) 1))∧TT 2 ((min (bt ws) 1) = (min (bt ws) 1)∧True))) (.w 1 [(1,(ED ws xs k w).O),(2,.val (i6 (min (bt ws) 1)))] <| .e) Try.func87 rfl rfl rfl (by kernel_rfl) ?_
 exact tt ⟨(iM ws xs k w om hf),⟨⟨oK,(by unfold uL; split <;> omega)⟩,tt ⟨rfl,oK⟩⟩⟩
abbrev E8 (ws xs : List Int) (k w : Int) : Ct := ⟨91,[(.agg [(LI ws),(LI xs),(i6 k),(i6 w)])],false,(i6 (if ai w = false ∨ k < 0 ∨ ae w < k then 0 else w))⟩
theorem yK (ws xs : List Int) (k w : Int) (hl : ws.length = 0) (hf : ws.all ai = true) : CC (E8 ws xs k w) := by
 have f0 : 0 < ws.length → 1 ≤ ws.getD 0 0∧ws.getD 0 0 ≤ 8 := fun h => aq hf h
 have f1 : 1 < ws.length → 1 ≤ ws.getD 1 0∧ws.getD 1 0 ≤ 8 := fun h => aq hf h
 have f2 : 2 < ws.length → 1 ≤ ws.getD 2 0∧ws.getD 2 0 ≤ 8 := fun h => aq hf h
 refine ah.vc (V := TT 2 (CS ((ai w) = true) (CS (k < 0) (TT 2 (CC (pZ w)∧TT 1 ((True∧(!(ai w)) = false)∧TT 4 ((True∧(decide (k < 0)) = true)∧TT 3 ((((0 : Int) = (if ai w = false ∨ k < 0 ∨ ae w < k then 0 else w)))∧True))))) (TT 2 (CC (pZ w)∧TT 1 ((True∧(!(ai w)) = false)∧TT 4 ((True∧(decide (k < 0)) = false)∧TT 4 (CC (zM w)∧TT 2 (CD (k > (ae w)) (TT 2 ((((0 : Int) = (if ai w = false ∨ k < 0 ∨ ae w < k then 0 else w)))∧True)) (TT 4 (((w = (if ai w = false ∨ k < 0 ∨ ae w < k then 0 else w)))∧True))))))))) (TT 2 (CC (pZ w)∧TT 1 ((True∧(!(ai w)) = true)∧TT 5 ((((0 : Int) = (if ai w = false ∨ k < 0 ∨ ae w < k then 0 else w)))∧True)))))) (.s 1 ((ai w) = true) (.s 1 (k < 0) (.w 1 [(2,(pZ w).O),(4,.val (dB false)),(9,.val (dB true))] <| .e) (.w 1 [(2,(pZ w).O),(4,.val (dB false)),(9,.val (dB false)),(14,(zM w).O)] <| .b 19 (.e) (.e))) (.w 1 [(2,(pZ w).O),(4,.val (dB true))] <| .e)) Try.func91 rfl rfl rfl (by kernel_rfl) ?_
 refine tt ⟨fun hs0 => ?_,fun hs0 => ?_⟩
 · refine ⟨fun hs1 => ?_,fun hs1 => ?_⟩
   · refine tt ⟨(dh w),tt ⟨(mF hs0),tt ⟨(vT hs1),tt ⟨?_,oK⟩⟩⟩⟩
     first | exact (if_pos (by first | assumption | omega)).symm | exact (if_neg (by first | assumption | omega)).symm | (split <;> first | rfl | omega | (simp_all; done) | (simp_all; omega))
   · refine tt ⟨(dh w),tt ⟨(mF hs0),tt ⟨(vF hs1),tt ⟨(na w),tt (cd (fun hc19 => ?_) (fun hc19 => ?_))⟩⟩⟩⟩
     · refine tt ⟨?_,oK⟩
       first | exact (if_pos (by first | assumption | omega)).symm | exact (if_neg (by first | assumption | omega)).symm | (split <;> first | rfl | omega | (simp_all; done) | (simp_all; omega))
     · refine tt ⟨?_,oK⟩
       first | exact (if_pos (by first | assumption | omega)).symm | exact (if_neg (by first | assumption | omega)).symm | (split <;> first | rfl | omega | (simp_all; done) | (simp_all; omega))
 · refine tt ⟨(dh w),tt ⟨(mT hs0),tt ⟨?_,oK⟩⟩⟩
   first | exact (if_pos (by first | assumption | omega)).symm | exact (if_neg (by first | assumption | omega)).symm | (split <;> first | rfl | omega | (simp_all; done) | (simp_all; omega))
abbrev E9 (ws xs : List Int) (k w : Int) : Ct := ⟨93,[(.agg [(LI ws),(LI xs),(i6 k),(i6 w)])],false,(i6 (if ws.getD 0 0 ≠ 1 ∨ ws.getD 1 0 ≠ ws.getD 2 0 then 0 else ws.getD 1 0))⟩
theorem Bd (ws xs : List Int) (k w : Int) (hl : ws.length = 3) (hf : ws.all ai = true) : CC (E9 ws xs k w) := by
 have f0 : 0 < ws.length → 1 ≤ ws.getD 0 0∧ws.getD 0 0 ≤ 8 := fun h => aq hf h
 have f1 : 1 < ws.length → 1 ≤ ws.getD 1 0∧ws.getD 1 0 ≤ 8 := fun h => aq hf h
 have f2 : 2 < ws.length → 1 ≤ ws.getD 2 0∧ws.getD 2 0 ≤ 8 := fun h => aq hf h
 refine ah.vc (V := TT 2 (CS ((ws.getD 0 0) = 1) (TT 2 (IX 0 ws.length∧TT 2 ((True∧(!decide ((ws.getD 0 0) = 1)) = false)∧TT 2 (IX 1 ws.length∧TT 3 (IX 2 ws.length∧TT 3 (CN ((ws.getD 1 0) = (ws.getD 2 0)) (TT 2 ((((0 : Int) = (if ws.getD 0 0 ≠ 1 ∨ ws.getD 1 0 ≠ ws.getD 2 0 then 0 else ws.getD 1 0)))∧True)) (TT 2 (IX 1 ws.length∧TT 3 ((((ws.getD 1 0) = (if ws.getD 0 0 ≠ 1 ∨ ws.getD 1 0 ≠ ws.getD 2 0 then 0 else ws.getD 1 0)))∧True))))))))) (TT 2 (IX 0 ws.length∧TT 2 ((True∧(!decide ((ws.getD 0 0) = 1)) = true)∧TT 3 ((((0 : Int) = (if ws.getD 0 0 ≠ 1 ∨ ws.getD 1 0 ≠ ws.getD 2 0 then 0 else ws.getD 1 0)))∧True)))))) (.s 1 ((ws.getD 0 0) = 1) (.w 1 [(5,.val (dB false))] <| .b 18 (.e) (.e)) (.w 1 [(5,.val (dB true))] <| .e)) Try.func93 rfl rfl rfl (by kernel_rfl) ?_
 refine tt ⟨fun hs0 => ?_,fun hs0 => ?_⟩
 · refine tt ⟨ix,tt ⟨(nF hs0),tt ⟨ix,tt ⟨ix,tt (cn (fun hc18 => ?_) (fun hc18 => ?_))⟩⟩⟩⟩
   · refine tt ⟨?_,oK⟩
     first | exact (if_pos (by first | assumption | omega)).symm | exact (if_neg (by first | assumption | omega)).symm | (split <;> first | rfl | omega | (simp_all; done) | (simp_all; omega))
   · refine tt ⟨ix,tt ⟨?_,oK⟩⟩
     first | exact (if_pos (by first | assumption | omega)).symm | exact (if_neg (by first | assumption | omega)).symm | (split <;> first | rfl | omega | (simp_all; done) | (simp_all; omega))
 · refine tt ⟨ix,tt ⟨(nT hs0),tt ⟨?_,oK⟩⟩⟩
   first | exact (if_pos (by first | assumption | omega)).symm | exact (if_neg (by first | assumption | omega)).symm | (split <;> first | rfl | omega | (simp_all; done) | (simp_all; omega))
abbrev Fa (ws xs : List Int) (k w : Int) : Ct := ⟨95,[(.agg [(LI ws),(LI xs),(i6 k),(i6 w)])],false,(i6 (ws.getD 0 0 + ws.getD 1 0))⟩
theorem Be (ws xs : List Int) (k w : Int) (hl : ws.length = 2) (hf : ws.all ai = true) : CC (Fa ws xs k w) := by
 have f0 : 0 < ws.length → 1 ≤ ws.getD 0 0∧ws.getD 0 0 ≤ 8 := fun h => aq hf h
 have f1 : 1 < ws.length → 1 ≤ ws.getD 1 0∧ws.getD 1 0 ≤ 8 := fun h => aq hf h
 have f2 : 2 < ws.length → 1 ≤ ws.getD 2 0∧ws.getD 2 0 ≤ 8 := fun h => aq hf h
 refine ah.vc (V := TT 4 (IX 0 ws.length∧TT 3 (IX 1 ws.length∧TT 1 (W6 ((ws.getD 0 0) + (ws.getD 1 0))∧TT 2 (((ws.getD 0 0) + (ws.getD 1 0)) = (ws.getD 0 0 + ws.getD 1 0)∧True))))) (.w 1 [(8,.val (i6 ((ws.getD 0 0) + (ws.getD 1 0))))] <| .e) Try.func95 rfl rfl rfl (by kernel_rfl) ?_
 refine tt ⟨ix,tt ⟨ix,tt ⟨w6,tt ⟨?_,oK⟩⟩⟩⟩
 first | rfl | omega | (simp; first | done | omega)
abbrev Fb (ws xs : List Int) (k w : Int) : Ct := ⟨97,[(.agg [(LI ws),(LI xs),(i6 k),(i6 w)])],false,(i6 (if ai w = false ∨ k < 0 ∨ ws.getD 0 0 - w < k then 0 else w))⟩
theorem yL (ws xs : List Int) (k w : Int) (hl : ws.length = 1) (hf : ws.all ai = true) : CC (Fb ws xs k w) := by
 have f0 : 0 < ws.length → 1 ≤ ws.getD 0 0∧ws.getD 0 0 ≤ 8 := fun h => aq hf h
 have f1 : 1 < ws.length → 1 ≤ ws.getD 1 0∧ws.getD 1 0 ≤ 8 := fun h => aq hf h
 have f2 : 2 < ws.length → 1 ≤ ws.getD 2 0∧ws.getD 2 0 ≤ 8 := fun h => aq hf h
 refine ah.vc (V := TT 2 (CS ((ai w) = true) (CS (k < 0) (TT 2 (CC (pZ w)∧TT 1 ((True∧(!(ai w)) = false)∧TT 4 ((True∧(decide (k < 0)) = true)∧TT 3 ((((0 : Int) = (if ai w = false ∨ k < 0 ∨ ws.getD 0 0 - w < k then 0 else w)))∧True))))) (TT 2 (CC (pZ w)∧TT 1 ((True∧(!(ai w)) = false)∧TT 4 ((True∧(decide (k < 0)) = false)∧TT 4 (IX 0 ws.length∧TT 3 (W6 ((ws.getD 0 0) - w)∧TT 2 (CD (k > ((ws.getD 0 0) - w)) (TT 2 ((((0 : Int) = (if ai w = false ∨ k < 0 ∨ ws.getD 0 0 - w < k then 0 else w)))∧True)) (TT 4 (((w = (if ai w = false ∨ k < 0 ∨ ws.getD 0 0 - w < k then 0 else w)))∧True)))))))))) (TT 2 (CC (pZ w)∧TT 1 ((True∧(!(ai w)) = true)∧TT 5 ((((0 : Int) = (if ai w = false ∨ k < 0 ∨ ws.getD 0 0 - w < k then 0 else w)))∧True)))))) (.s 1 ((ai w) = true) (.s 1 (k < 0) (.w 1 [(2,(pZ w).O),(4,.val (dB false)),(9,.val (dB true))] <| .e) (.w 1 [(2,(pZ w).O),(4,.val (dB false)),(9,.val (dB false)),(18,.val (i6 ((ws.getD 0 0) - w)))] <| .b 23 (.e) (.e))) (.w 1 [(2,(pZ w).O),(4,.val (dB true))] <| .e)) Try.func97 rfl rfl rfl (by kernel_rfl) ?_
 refine tt ⟨fun hs0 => ?_,fun hs0 => ?_⟩
 · refine ⟨fun hs1 => ?_,fun hs1 => ?_⟩
   · refine tt ⟨(dh w),tt ⟨(mF hs0),tt ⟨(vT hs1),tt ⟨?_,oK⟩⟩⟩⟩
     first | exact (if_pos (by first | assumption | omega)).symm | exact (if_neg (by first | assumption | omega)).symm | (split <;> first | rfl | omega | (simp_all; done) | (simp_all; omega))
   · refine tt ⟨(dh w),tt ⟨(mF hs0),tt ⟨(vF hs1),tt ⟨ix,tt ⟨(w6 (by have := aE.1 (show ai w = true by simp_all); omega) (by have := aE.1 (show ai w = true by simp_all); omega)),tt (cd (fun hc23 => ?_) (fun hc23 => ?_))⟩⟩⟩⟩⟩
     · refine tt ⟨?_,oK⟩
       first | exact (if_pos (by first | assumption | omega)).symm | exact (if_neg (by first | assumption | omega)).symm | (split <;> first | rfl | omega | (simp_all; done) | (simp_all; omega))
     · refine tt ⟨?_,oK⟩
       first | exact (if_pos (by first | assumption | omega)).symm | exact (if_neg (by first | assumption | omega)).symm | (split <;> first | rfl | omega | (simp_all; done) | (simp_all; omega))
 · refine tt ⟨(dh w),tt ⟨(mT hs0),tt ⟨?_,oK⟩⟩⟩
   first | exact (if_pos (by first | assumption | omega)).symm | exact (if_neg (by first | assumption | omega)).symm | (split <;> first | rfl | omega | (simp_all; done) | (simp_all; omega))
abbrev Fc (ws xs : List Int) (k w : Int) : Ct := ⟨99,[(.agg [(LI ws),(LI xs),(i6 k),(i6 w)])],false,(i6 (if w < ws.getD 0 0 then 0 else w))⟩
theorem Bf (ws xs : List Int) (k w : Int) (hl : ws.length = 1) (hf : ws.all ai = true) : CC (Fc ws xs k w) := by
 have f0 : 0 < ws.length → 1 ≤ ws.getD 0 0∧ws.getD 0 0 ≤ 8 := fun h => aq hf h
 have f1 : 1 < ws.length → 1 ≤ ws.getD 1 0∧ws.getD 1 0 ≤ 8 := fun h => aq hf h
 have f2 : 2 < ws.length → 1 ≤ ws.getD 2 0∧ws.getD 2 0 ≤ 8 := fun h => aq hf h
 refine ah.vc (V := TT 6 (IX 0 ws.length∧TT 2 (CD (w < (ws.getD 0 0)) (TT 2 ((0 : Int) = (if w < ws.getD 0 0 then 0 else w)∧True)) (TT 4 (w = (if w < ws.getD 0 0 then 0 else w)∧True))))) (.b 9 (.e) (.e)) Try.func99 rfl rfl rfl (by kernel_rfl) ?_
 refine tt ⟨ix,tt (cd (fun hc9 => ?_) (fun hc9 => ?_))⟩
 · refine tt ⟨?_,oK⟩
   first | exact (if_pos (by first | assumption | omega)).symm | exact (if_neg (by first | assumption | omega)).symm | (split <;> first | rfl | omega | (simp_all; done) | (simp_all; omega))
 · refine tt ⟨?_,oK⟩
   first | exact (if_pos (by first | assumption | omega)).symm | exact (if_neg (by first | assumption | omega)).symm | (split <;> first | rfl | omega | (simp_all; done) | (simp_all; omega))
end Go.Proofs.Ytgfbfajaaaegjaa
