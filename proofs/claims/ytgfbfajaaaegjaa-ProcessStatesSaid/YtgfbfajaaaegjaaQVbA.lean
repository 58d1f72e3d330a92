/-
  Package bits: widths and values of operations.
-/
import Derived.Test.YtgfbfajaaaegjaaQVp
import Derived.Test.YtgfbfajaaaegjaaQBitP
namespace Go.Proofs.Ytgfbfajaaaegjaa
open Go.RowKit
set_option linter.unusedVariables false
set_option linter.unusedSimpArgs false
set_option maxRecDepth 100000
abbrev py (n : Int) : Ct := ⟨75,[(i6 n)],false,(dB (an n))⟩
theorem cM (n : Int) : CC (py n) := by
 refine ak.vc (V := TT 1 (CS (n ≥ 1) (TT 2 ((True∧(decide (n ≥ 1)) = true)∧TT 5 ((decide (n ≤ 8)) = (an n)∧True))) (TT 2 ((True∧(decide (n ≥ 1)) = false)∧TT 5 (false = (an n)∧True))))) (.s 1 (n ≥ 1) (.w 1 [(2,.val (dB true))] <| .e) (.w 1 [(2,.val (dB false))] <| .e)) Try.func75 rfl rfl rfl (by kernel_rfl) ?_
 refine tt ⟨fun hs0 => ?_,fun hs0 => ?_⟩
 · refine tt ⟨(vT hs0),tt ⟨?_,oK⟩⟩
   unfold an; simp; omega
 · refine tt ⟨(vF hs0),tt ⟨?_,oK⟩⟩
   unfold an; simp; omega
abbrev xN (w : Int) : Ct := ⟨54,[(i6 w)],false,(i6 (af w))⟩
theorem ko (w : Int) : CC (xN w) := by
 refine ak.vc (V := TT 1 (CS (w < 0) (TT 2 ((True∧(decide (w < 0)) = true)∧TT 5 ((0 : Int) = (af w)∧True))) (TT 2 ((True∧(decide (w < 0)) = false)∧TT 3 (CD (w > 62) (TT 2 ((0 : Int) = (af w)∧True)) (TT 1 (SH w∧W6 ((2 ^ w.toNat) - 1)∧TT 2 (((2 ^ w.toNat) - 1) = (af w)∧True)))))))) (.s 1 (w < 0) (.w 1 [(2,.val (dB true))] <| .e) (.w 1 [(2,.val (dB false))] <| .b 8 (.e) (.w 3 [(1,.val (i6 (2 ^ w.toNat))),(2,.val (i6 ((2 ^ w.toNat) - 1)))] <| .e))) Try.func54 rfl rfl rfl (by kernel_rfl) ?_
 refine tt ⟨fun hs0 => ?_,fun hs0 => ?_⟩
 · refine tt ⟨(vT hs0),tt ⟨?_,oK⟩⟩
   unfold af; first | exact (if_pos (by omega)).symm | exact (if_neg (by omega)).symm
 · refine tt ⟨(vF hs0),tt (cd (fun hc8 => ?_) (fun hc8 => ?_))⟩
   · refine tt ⟨?_,oK⟩
     unfold af; first | exact (if_pos (by omega)).symm | exact (if_neg (by omega)).symm
   · refine tt ⟨sh,⟨(w6 (by have := dF (n := w.toNat) (by omega); omega) (by have := dF (n := w.toNat) (by omega); omega)),tt ⟨?_,oK⟩⟩⟩
     unfold af; first | exact (if_pos (by omega)).symm | exact (if_neg (by omega)).symm
abbrev CX (b : Bool) : Ct := ⟨89,[(dB b)],false,(i6 (if b = true then 1 else 0))⟩
theorem zf (b : Bool) : CC (CX b) := by
 refine ak.vc (V := TT 2 (CB (b) (TT 2 ((1 : Int) = (if b = true then 1 else 0)∧True)) (TT 2 ((0 : Int) = (if b = true then 1 else 0)∧True)))) (.b 3 (.e) (.e)) Try.func89 rfl rfl rfl (by kernel_rfl) ?_
 refine tt ⟨fun hc3 => ?_,fun hc3 => ?_⟩
 · refine tt ⟨?_,oK⟩
   first | exact (if_pos hc3).symm | exact (if_neg (by rw [hc3]; simp)).symm
 · refine tt ⟨?_,oK⟩
   first | exact (if_pos hc3).symm | exact (if_neg (by rw [hc3]; simp)).symm
abbrev DA (n : Int) : Ct := ⟨74,[(i6 n)],false,(dB (!(an n)))⟩
theorem zg (n : Int) : CC (DA n) := by
 refine ak.vc (V := TT 2 (CC (py n)∧TT 3 ((!(an n)) = (!(an n))∧True))) (.w 1 [(1,(py n).O)] <| .e) Try.func74 rfl rfl rfl (by kernel_rfl) ?_
 exact tt ⟨(cM n),tt ⟨rfl,oK⟩⟩
abbrev BP (ws : List Int) : Ct := ⟨101,[(LI ws),(.fn (.func 74) [] [])],false,(i6 (oa 0 ws))⟩
abbrev mK (ws : List Int) : Lp (Nat) := lm [0,1,7,8] 0 (fun (k : Nat) => ⟨[(0,(LI ws)),(1,(.fn (.func 74) [] [])),(7,(i6 (ws.length : Int))),(8,(i6 (k : Int)))],[]⟩) (fun (k : Nat) => k ≤ ws.length∧oa k (ws.drop k) = oa 0 ws) (fun (k : Nat) => ws.length - k)
theorem zh (ws : List Int) (hl : ws.length ≤ 9223372036854775807) : CC (BP ws) := by
 refine ak.vc (V := TT 4 (GO (mK ws) 0 (∀ k,(mK ws).inv k → TT 1 (CD ((k : Int) < (ws.length : Int)) (TT 5 (IX (k : Int) ws.length∧TT 1 (CC (DA (ws.getD k 0))∧CB (!(an (ws.getD k 0))) (TT 3 ((k : Int) = (oa 0 ws)∧True)) (W6 ((k + 1 : Nat) : Int)∧TT 1 (AG (mK ws) k (k + 1)))))) (TT 2 ((-1) = (oa 0 ws)∧True)))))) (.l (mK ws) 0 (fun k => .b 9 (.w 4 [(5,(DA (ws.getD k 0)).O)] <| .b 16 (.e) (.w 6 [(0,.val (i6 ((k + 1 : Nat) : Int)))] <| .e)) (.e))) Try.func101 rfl rfl rfl (by kernel_rfl) ?_
 refine tt ⟨rfl,⟨by omega,by rw [List.drop_zero]⟩,?_⟩
 intro k hinv
 obtain ⟨hk,hx⟩ := hinv
 refine tt (cd (fun hc9 => ?_) (fun hc9 => ?_))
 · refine tt ⟨ix,tt ⟨(zg (ws.getD k 0)),⟨fun hc16 => ?_,fun hc16 => ?_⟩⟩⟩
   · refine tt ⟨?_,oK⟩
     rw [← hx,sn (show k < ws.length by omega),if_neg (by simpa using hc16)]
   · refine ⟨w6,tt ⟨(k + 1),rfl,?_,(?_ : ws.length - (k + 1) < ws.length - k)⟩⟩
     · refine ⟨by omega,?_⟩
       rw [← hx,sn (show k < ws.length by omega),if_pos (by simpa using hc16)]
     · omega
 · refine tt ⟨?_,oK⟩
   rw [← hx,List.drop_of_length_le (by omega)]; rfl
abbrev Aw (ws : List Int) : Ct := ⟨73,[(LI ws),(.fn (.func 74) [] [])],false,(dB (!(ws.all an)))⟩
theorem gD (ws : List Int) (hl : ws.length ≤ 9223372036854775807) : CC (Aw ws) := by
 refine ak.vc (V := TT 3 (CC (BP ws)∧TT 3 ((decide ((oa 0 ws) ≥ 0)) = (!(ws.all an))∧True))) (.w 1 [(2,(BP ws).O)] <| .e) Try.func73 rfl rfl rfl (by kernel_rfl) ?_
 refine tt ⟨(zh ws om),tt ⟨?_,oK⟩⟩
 rw [← sm ws 0]
abbrev D1 (ws xs : List Int) (k w : Int) : Ct := ⟨78,[(.agg [(LI ws),(LI xs),(i6 k),(i6 w)])],false,(i6 (ws.getD 0 0))⟩
theorem zi (ws xs : List Int) (k w : Int) (hl : ws.length = 1) (hf : ws.all an = true) : CC (D1 ws xs k w) := by
 have f0 : 0 < ws.length → 1 ≤ ws.getD 0 0∧ws.getD 0 0 ≤ 8 := fun h => au hf h
 have f1 : 1 < ws.length → 1 ≤ ws.getD 1 0∧ws.getD 1 0 ≤ 8 := fun h => au hf h
 have f2 : 2 < ws.length → 1 ≤ ws.getD 2 0∧ws.getD 2 0 ≤ 8 := fun h => au hf h
 refine ak.vc (V := TT 4 (IX 0 ws.length∧TT 3 ((ws.getD 0 0) = (ws.getD 0 0)∧True))) (.e) Try.func78 rfl rfl rfl (by kernel_rfl) ?_
 exact tt ⟨ix,tt ⟨rfl,oK⟩⟩
abbrev DB (ws xs : List Int) (k w : Int) : Ct := ⟨81,[(.agg [(LI ws),(LI xs),(i6 k),(i6 w)])],false,(i6 (bK ws))⟩
theorem ik (ws xs : List Int) (k w : Int) (hl : ws.length = 2) (hf : ws.all an = true) : CC (DB ws xs k w) := by
 have f0 : 0 < ws.length → 1 ≤ ws.getD 0 0∧ws.getD 0 0 ≤ 8 := fun h => au hf h
 have f1 : 1 < ws.length → 1 ≤ ws.getD 1 0∧ws.getD 1 0 ≤ 8 := fun h => au hf h
 have f2 : 2 < ws.length → 1 ≤ ws.getD 2 0∧ws.getD 2 0 ≤ 8 := fun h => au hf h
 refine ak.vc (V := TT 4 (IX 0 ws.length∧TT 3 (IX 1 ws.length∧TT 2 (CN ((ws.getD 0 0) = (ws.getD 1 0)) (TT 2 ((0 : Int) = (bK ws)∧True)) (TT 2 (IX 0 ws.length∧TT 3 ((ws.getD 0 0) = (bK ws)∧True))))))) (.b 11 (.e) (.e)) Try.func81 rfl rfl rfl (by kernel_rfl) ?_
 refine tt ⟨ix,tt ⟨ix,tt (cn (fun hc11 => ?_) (fun hc11 => ?_))⟩⟩
 · refine tt ⟨?_,oK⟩
   first | exact (if_pos (by simpa using hc11)).symm | exact (if_neg (by simpa using hc11)).symm
 · refine tt ⟨ix,tt ⟨?_,oK⟩⟩
   first | exact (if_pos (by simpa using hc11)).symm | exact (if_neg (by simpa using hc11)).symm
abbrev D2 (ws xs : List Int) (k w : Int) : Ct := ⟨87,[(.agg [(LI ws),(LI xs),(i6 k),(i6 w)])],false,(i6 (min (bK ws) 1))⟩
theorem zj (ws xs : List Int) (k w : Int) (hl : ws.length = 2) (hf : ws.all an = true) : CC (D2 ws xs k w) := by
 have f0 : 0 < ws.length → 1 ≤ ws.getD 0 0∧ws.getD 0 0 ≤ 8 := fun h => au hf h
 have f1 : 1 < ws.length → 1 ≤ ws.getD 1 0∧ws.getD 1 0 ≤ 8 := fun h => au hf h
 have f2 : 2 < ws.length → 1 ≤ ws.getD 2 0∧ws.getD 2 0 ≤ 8 := fun h => au hf h
 refine ak.vc (V := TT 3 (CC (DB ws xs k w)∧(True∧(tZ (bK ws) 1) = (min (bK ws) 1))∧TT 2 ((min (bK ws) 1) = (min (bK ws) 1)∧True))) (.w 1 [(1,(DB ws xs k w).O),(2,.val (i6 (min (bK ws) 1)))] <| .e) Try.func87 rfl rfl rfl (by kernel_rfl) ?_
 exact tt ⟨(ik ws xs k w om hf),⟨⟨oK,(by unfold tZ; split <;> omega)⟩,tt ⟨rfl,oK⟩⟩⟩
abbrev D3 (ws xs : List Int) (k w : Int) : Ct := ⟨91,[(.agg [(LI ws),(LI xs),(i6 k),(i6 w)])],false,(i6 (if an w = false ∨ k < 0 ∨ af w < k then 0 else w))⟩
theorem xO (ws xs : List Int) (k w : Int) (hl : ws.length = 0) (hf : ws.all an = true) : CC (D3 ws xs k w) := by
 have f0 : 0 < ws.length → 1 ≤ ws.getD 0 0∧ws.getD 0 0 ≤ 8 := fun h => au hf h
 have f1 : 1 < ws.length → 1 ≤ ws.getD 1 0∧ws.getD 1 0 ≤ 8 := fun h => au hf h
 have f2 : 2 < ws.length → 1 ≤ ws.getD 2 0∧ws.getD 2 0 ≤ 8 := fun h => au hf h
 refine ak.vc (V := TT 2 (CS ((an w) = true) (CS (k < 0) (TT 2 (CC (py w)∧TT 1 ((True∧(!(an w)) = false)∧TT 4 ((True∧(decide (k < 0)) = true)∧TT 3 ((((0 : Int) = (if an w = false ∨ k < 0 ∨ af w < k then 0 else w)))∧True))))) (TT 2 (CC (py w)∧TT 1 ((True∧(!(an w)) = false)∧TT 4 ((True∧(decide (k < 0)) = false)∧TT 4 (CC (xN w)∧TT 2 (CD (k > (af w)) (TT 2 ((((0 : Int) = (if an w = false ∨ k < 0 ∨ af w < k then 0 else w)))∧True)) (TT 4 (((w = (if an w = false ∨ k < 0 ∨ af w < k then 0 else w)))∧True))))))))) (TT 2 (CC (py w)∧TT 1 ((True∧(!(an w)) = true)∧TT 5 ((((0 : Int) = (if an w = false ∨ k < 0 ∨ af w < k then 0 else w)))∧True)))))) (.s 1 ((an w) = true) (.s 1 (k < 0) (.w 1 [(2,(py w).O),(4,.val (dB false)),(9,.val (dB true))] <| .e) (.w 1 [(2,(py w).O),(4,.val (dB false)),(9,.val (dB false)),(14,(xN w).O)] <| .b 19 (.e) (.e))) (.w 1 [(2,(py w).O),(4,.val (dB true))] <| .e)) Try.func91 rfl rfl rfl (by kernel_rfl) ?_
 refine tt ⟨fun hs0 => ?_,fun hs0 => ?_⟩
 · refine ⟨fun hs1 => ?_,fun hs1 => ?_⟩
   · refine tt ⟨(cM w),tt ⟨(mF hs0),tt ⟨(vT hs1),tt ⟨?_,oK⟩⟩⟩⟩
     first | exact (if_pos (by first | assumption | omega)).symm | exact (if_neg (by first | assumption | omega)).symm | (split <;> first | rfl | omega | (simp_all; done) | (simp_all; omega))
   · refine tt ⟨(cM w),tt ⟨(mF hs0),tt ⟨(vF hs1),tt ⟨(ko w),tt (cd (fun hc19 => ?_) (fun hc19 => ?_))⟩⟩⟩⟩
     · refine tt ⟨?_,oK⟩
       first | exact (if_pos (by first | assumption | omega)).symm | exact (if_neg (by first | assumption | omega)).symm | (split <;> first | rfl | omega | (simp_all; done) | (simp_all; omega))
     · refine tt ⟨?_,oK⟩
       first | exact (if_pos (by first | assumption | omega)).symm | exact (if_neg (by first | assumption | omega)).symm | (split <;> first | rfl | omega | (simp_all; done) | (simp_all; omega))
 · refine tt ⟨(cM w),tt ⟨(mT hs0),tt ⟨?_,oK⟩⟩⟩
   first | exact (if_pos (by first | assumption | omega)).symm | exact (if_neg (by first | assumption | omega)).symm | (split <;> first | rfl | omega | (simp_all; done) | (simp_all; omega))
abbrev D4 (ws xs : List Int) (k w : Int) : Ct := ⟨93,[(.agg [(LI ws),(LI xs),(i6 k),(i6 w)])],false,(i6 (if ws.getD 0 0 ≠ 1 ∨ ws.getD 1 0 ≠ ws.getD 2 0 then 0 else ws.getD 1 0))⟩
theorem Ax (ws xs : List Int) (k w : Int) (hl : ws.length = 3) (hf : ws.all an = true) : CC (D4 ws xs k w) := by
 have f0 : 0 < ws.length → 1 ≤ ws.getD 0 0∧ws.getD 0 0 ≤ 8 := fun h => au hf h
 have f1 : 1 < ws.length → 1 ≤ ws.getD 1 0∧ws.getD 1 0 ≤ 8 := fun h => au hf h
 have f2 : 2 < ws.length → 1 ≤ ws.getD 2 0∧ws.getD 2 0 ≤ 8 := fun h => au hf h
 refine ak.vc (V := TT 2 (CS ((ws.getD 0 0) = 1) (TT 2 (IX 0 ws.length∧TT 2 ((True∧(!decide ((ws.getD 0 0) = 1)) = false)∧TT 2 (IX 1 ws.length∧TT 3 (IX 2 ws.length∧TT 3 (CN ((ws.getD 1 0) = (ws.getD 2 0)) (TT 2 ((((0 : Int) = (if ws.getD 0 0 ≠ 1 ∨ ws.getD 1 0 ≠ ws.getD 2 0 then 0 else ws.getD 1 0)))∧True)) (TT 2 (IX 1 ws.length∧TT 3 ((((ws.getD 1 0) = (if ws.getD 0 0 ≠ 1 ∨ ws.getD 1 0 ≠ ws.getD 2 0 then 0 else ws.getD 1 0)))∧True))))))))) (TT 2 (IX 0 ws.length∧TT 2 ((True∧(!decide ((ws.getD 0 0) = 1)) = true)∧TT 3 ((((0 : Int) = (if ws.getD 0 0 ≠ 1 ∨ ws.getD 1 0 ≠ ws.getD 2 0 then 0 else ws.getD 1 0)))∧True)))))) (.s 1 ((ws.getD 0 0) = 1) (.w 1 [(5,.val (dB false))] <| .b 18 (.e) (.e)) (.w 1 [(5,.val (dB true))] <| .e)) Try.func93 rfl rfl rfl (by kernel_rfl) ?_
 refine tt ⟨fun hs0 => ?_,fun hs0 => ?_⟩
 · refine tt ⟨ix,tt ⟨(nF hs0),tt ⟨ix,tt ⟨ix,tt (cn (fun hc18 => ?_) (fun hc18 => ?_))⟩⟩⟩⟩
   · refine tt ⟨?_,oK⟩
     first | exact (if_pos (by first | assumption | omega)).symm | exact (if_neg (by first | assumption | omega)).symm | (split <;> first | rfl | omega | (simp_all; done) | (simp_all; omega))
   · refine tt ⟨ix,tt ⟨?_,oK⟩⟩
     first | exact (if_pos (by first | assumption | omega)).symm | exact (if_neg (by first | assumption | omega)).symm | (split <;> first | rfl | omega | (simp_all; done) | (simp_all; omega))
 · refine tt ⟨ix,tt ⟨(nT hs0),tt ⟨?_,oK⟩⟩⟩
   first | exact (if_pos (by first | assumption | omega)).symm | exact (if_neg (by first | assumption | omega)).symm | (split <;> first | rfl | omega | (simp_all; done) | (simp_all; omega))
abbrev D5 (ws xs : List Int) (k w : Int) : Ct := ⟨95,[(.agg [(LI ws),(LI xs),(i6 k),(i6 w)])],false,(i6 (ws.getD 0 0 + ws.getD 1 0))⟩
theorem Ay (ws xs : List Int) (k w : Int) (hl : ws.length = 2) (hf : ws.all an = true) : CC (D5 ws xs k w) := by
 have f0 : 0 < ws.length → 1 ≤ ws.getD 0 0∧ws.getD 0 0 ≤ 8 := fun h => au hf h
 have f1 : 1 < ws.length → 1 ≤ ws.getD 1 0∧ws.getD 1 0 ≤ 8 := fun h => au hf h
 have f2 : 2 < ws.length → 1 ≤ ws.getD 2 0∧ws.getD 2 0 ≤ 8 := fun h => au hf h
 refine ak.vc (V := TT 4 (IX 0 ws.length∧TT 3 (IX 1 ws.length∧TT 1 (W6 ((ws.getD 0 0) + (ws.getD 1 0))∧TT 2 (((ws.getD 0 0) + (ws.getD 1 0)) = (ws.getD 0 0 + ws.getD 1 0)∧True))))) (.w 1 [(8,.val (i6 ((ws.getD 0 0) + (ws.getD 1 0))))] <| .e) Try.func95 rfl rfl rfl (by kernel_rfl) ?_
 refine tt ⟨ix,tt ⟨ix,tt ⟨w6,tt ⟨?_,oK⟩⟩⟩⟩
 first | rfl | omega | (simp; first | done | omega)
abbrev D6 (ws xs : List Int) (k w : Int) : Ct := ⟨97,[(.agg [(LI ws),(LI xs),(i6 k),(i6 w)])],false,(i6 (if an w = false ∨ k < 0 ∨ ws.getD 0 0 - w < k then 0 else w))⟩
theorem xP (ws xs : List Int) (k w : Int) (hl : ws.length = 1) (hf : ws.all an = true) : CC (D6 ws xs k w) := by
 have f0 : 0 < ws.length → 1 ≤ ws.getD 0 0∧ws.getD 0 0 ≤ 8 := fun h => au hf h
 have f1 : 1 < ws.length → 1 ≤ ws.getD 1 0∧ws.getD 1 0 ≤ 8 := fun h => au hf h
 have f2 : 2 < ws.length → 1 ≤ ws.getD 2 0∧ws.getD 2 0 ≤ 8 := fun h => au hf h
 refine ak.vc (V := TT 2 (CS ((an w) = true) (CS (k < 0) (TT 2 (CC (py w)∧TT 1 ((True∧(!(an w)) = false)∧TT 4 ((True∧(decide (k < 0)) = true)∧TT 3 ((((0 : Int) = (if an w = false ∨ k < 0 ∨ ws.getD 0 0 - w < k then 0 else w)))∧True))))) (TT 2 (CC (py w)∧TT 1 ((True∧(!(an w)) = false)∧TT 4 ((True∧(decide (k < 0)) = false)∧TT 4 (IX 0 ws.length∧TT 3 (W6 ((ws.getD 0 0) - w)∧TT 2 (CD (k > ((ws.getD 0 0) - w)) (TT 2 ((((0 : Int) = (if an w = false ∨ k < 0 ∨ ws.getD 0 0 - w < k then 0 else w)))∧True)) (TT 4 (((w = (if an w = false ∨ k < 0 ∨ ws.getD 0 0 - w < k then 0 else w)))∧True)))))))))) (TT 2 (CC (py w)∧TT 1 ((True∧(!(an w)) = true)∧TT 5 ((((0 : Int) = (if an w = false ∨ k < 0 ∨ ws.getD 0 0 - w < k then 0 else w)))∧True)))))) (.s 1 ((an w) = true) (.s 1 (k < 0) (.w 1 [(2,(py w).O),(4,.val (dB false)),(9,.val (dB true))] <| .e) (.w 1 [(2,(py w).O),(4,.val (dB false)),(9,.val (dB false)),(18,.val (i6 ((ws.getD 0 0) - w)))] <| .b 23 (.e) (.e))) (.w 1 [(2,(py w).O),(4,.val (dB true))] <| .e)) Try.func97 rfl rfl rfl (by kernel_rfl) ?_
 refine tt ⟨fun hs0 => ?_,fun hs0 => ?_⟩
 · refine ⟨fun hs1 => ?_,fun hs1 => ?_⟩
   · refine tt ⟨(cM w),tt ⟨(mF hs0),tt ⟨(vT hs1),tt ⟨?_,oK⟩⟩⟩⟩
     first | exact (if_pos (by first | assumption | omega)).symm | exact (if_neg (by first | assumption | omega)).symm | (split <;> first | rfl | omega | (simp_all; done) | (simp_all; omega))
   · refine tt ⟨(cM w),tt ⟨(mF hs0),tt ⟨(vF hs1),tt ⟨ix,tt ⟨(w6 (by have := aK.1 (show an w = true by simp_all); omega) (by have := aK.1 (show an w = true by simp_all); omega)),tt (cd (fun hc23 => ?_) (fun hc23 => ?_))⟩⟩⟩⟩⟩
     · refine tt ⟨?_,oK⟩
       first | exact (if_pos (by first | assumption | omega)).symm | exact (if_neg (by first | assumption | omega)).symm | (split <;> first | rfl | omega | (simp_all; done) | (simp_all; omega))
     · refine tt ⟨?_,oK⟩
       first | exact (if_pos (by first | assumption | omega)).symm | exact (if_neg (by first | assumption | omega)).symm | (split <;> first | rfl | omega | (simp_all; done) | (simp_all; omega))
 · refine tt ⟨(cM w),tt ⟨(mT hs0),tt ⟨?_,oK⟩⟩⟩
   first | exact (if_pos (by first | assumption | omega)).symm | exact (if_neg (by first | assumption | omega)).symm | (split <;> first | rfl | omega | (simp_all; done) | (simp_all; omega))
abbrev D7 (ws xs : List Int) (k w : Int) : Ct := ⟨99,[(.agg [(LI ws),(LI xs),(i6 k),(i6 w)])],false,(i6 (if w < ws.getD 0 0 then 0 else w))⟩
theorem Az (ws xs : List Int) (k w : Int) (hl : ws.length = 1) (hf : ws.all an = true) : CC (D7 ws xs k w) := by
 have f0 : 0 < ws.length → 1 ≤ ws.getD 0 0∧ws.getD 0 0 ≤ 8 := fun h => au hf h
 have f1 : 1 < ws.length → 1 ≤ ws.getD 1 0∧ws.getD 1 0 ≤ 8 := fun h => au hf h
 have f2 : 2 < ws.length → 1 ≤ ws.getD 2 0∧ws.getD 2 0 ≤ 8 := fun h => au hf h
 refine ak.vc (V := TT 6 (IX 0 ws.length∧TT 2 (CD (w < (ws.getD 0 0)) (TT 2 ((0 : Int) = (if w < ws.getD 0 0 then 0 else w)∧True)) (TT 4 (w = (if w < ws.getD 0 0 then 0 else w)∧True))))) (.b 9 (.e) (.e)) Try.func99 rfl rfl rfl (by kernel_rfl) ?_
 refine tt ⟨ix,tt (cd (fun hc9 => ?_) (fun hc9 => ?_))⟩
 · refine tt ⟨?_,oK⟩
   first | exact (if_pos (by first | assumption | omega)).symm | exact (if_neg (by first | assumption | omega)).symm | (split <;> first | rfl | omega | (simp_all; done) | (simp_all; omega))
 · refine tt ⟨?_,oK⟩
   first | exact (if_pos (by first | assumption | omega)).symm | exact (if_neg (by first | assumption | omega)).symm | (split <;> first | rfl | omega | (simp_all; done) | (simp_all; omega))
end Go.Proofs.Ytgfbfajaaaegjaa
