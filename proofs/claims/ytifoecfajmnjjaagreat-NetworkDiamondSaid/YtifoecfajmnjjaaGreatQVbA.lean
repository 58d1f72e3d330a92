/-
  Package bits: widths and values of operations.
-/
import Derived.Test.YtifoecfajmnjjaaGreatQVp
import Derived.Test.YtifoecfajmnjjaaGreatQBitP
namespace Go.Proofs.YtifoecfajmnjjaaGreat
open Go.RowKit
set_option linter.unusedVariables false
set_option linter.unusedSimpArgs false
set_option maxRecDepth 100000
abbrev jp (n : Int) : Ct := ⟨121,[(i6 n)],false,(dB (aA n))⟩
theorem eK (n : Int) : CC (jp n) := by
 refine an.vc (V := TT 1 (CS (n ≥ 1) (TT 2 ((True∧(decide (n ≥ 1)) = true)∧TT 5 ((decide (n ≤ 8)) = (aA n)∧True))) (TT 2 ((True∧(decide (n ≥ 1)) = false)∧TT 5 (false = (aA n)∧True))))) (.s 1 (n ≥ 1) (.w 1 [(2,.val (dB true))] <| .e) (.w 1 [(2,.val (dB false))] <| .e)) Tryz.func121 rfl rfl rfl (by kernel_rfl) ?_
 refine tt ⟨fun hs0 => ?_,fun hs0 => ?_⟩
 · refine tt ⟨(vT hs0),tt ⟨?_,oK⟩⟩
   unfold aA; simp; omega
 · refine tt ⟨(vF hs0),tt ⟨?_,oK⟩⟩
   unfold aA; simp; omega
abbrev Hy (w : Int) : Ct := ⟨95,[(i6 w)],false,(i6 (ap w))⟩
theorem rU (w : Int) : CC (Hy w) := by
 refine an.vc (V := TT 1 (CS (w < 0) (TT 2 ((True∧(decide (w < 0)) = true)∧TT 5 ((0 : Int) = (ap w)∧True))) (TT 2 ((True∧(decide (w < 0)) = false)∧TT 3 (CD (w > 62) (TT 2 ((0 : Int) = (ap w)∧True)) (TT 1 (SH w∧W6 ((2 ^ w.toNat) - 1)∧TT 2 (((2 ^ w.toNat) - 1) = (ap w)∧True)))))))) (.s 1 (w < 0) (.w 1 [(2,.val (dB true))] <| .e) (.w 1 [(2,.val (dB false))] <| .b 8 (.e) (.w 3 [(1,.val (i6 (2 ^ w.toNat))),(2,.val (i6 ((2 ^ w.toNat) - 1)))] <| .e))) Tryz.func95 rfl rfl rfl (by kernel_rfl) ?_
 refine tt ⟨fun hs0 => ?_,fun hs0 => ?_⟩
 · refine tt ⟨(vT hs0),tt ⟨?_,oK⟩⟩
   unfold ap; first | exact (if_pos (by omega)).symm | exact (if_neg (by omega)).symm
 · refine tt ⟨(vF hs0),tt (cd (fun hc8 => ?_) (fun hc8 => ?_))⟩
   · refine tt ⟨?_,oK⟩
     unfold ap; first | exact (if_pos (by omega)).symm | exact (if_neg (by omega)).symm
   · refine tt ⟨sh,⟨(w6 (by have := oz (n := w.toNat) (by omega); omega) (by have := oz (n := w.toNat) (by omega); omega)),tt ⟨?_,oK⟩⟩⟩
     unfold ap; first | exact (if_pos (by omega)).symm | exact (if_neg (by omega)).symm
abbrev Hz (b : Bool) : Ct := ⟨133,[(dB b)],false,(i6 (if b = true then 1 else 0))⟩
theorem HA (b : Bool) : CC (Hz b) := by
 refine an.vc (V := TT 2 (CB (b) (TT 2 ((1 : Int) = (if b = true then 1 else 0)∧True)) (TT 2 ((0 : Int) = (if b = true then 1 else 0)∧True)))) (.b 3 (.e) (.e)) Tryz.func133 rfl rfl rfl (by kernel_rfl) ?_
 refine tt ⟨fun hc3 => ?_,fun hc3 => ?_⟩
 · refine tt ⟨?_,oK⟩
   first | exact (if_pos hc3).symm | exact (if_neg (by rw [hc3]; simp)).symm
 · refine tt ⟨?_,oK⟩
   first | exact (if_pos hc3).symm | exact (if_neg (by rw [hc3]; simp)).symm
abbrev KW (n : Int) : Ct := ⟨120,[(i6 n)],false,(dB (!(aA n)))⟩
theorem HB (n : Int) : CC (KW n) := by
 refine an.vc (V := TT 2 (CC (jp n)∧TT 3 ((!(aA n)) = (!(aA n))∧True))) (.w 1 [(1,(jp n).O)] <| .e) Tryz.func120 rfl rfl rfl (by kernel_rfl) ?_
 exact tt ⟨(eK n),tt ⟨rfl,oK⟩⟩
abbrev NQ (ws : List Int) : Ct := ⟨96,[(LI ws),(.fn (.func 120) [] [])],false,(i6 (tG 0 ws))⟩
abbrev rV (ws : List Int) : Lp (Nat) := fX [0,1,7,8] 0 (fun (k : Nat) => ⟨[(0,(LI ws)),(1,(.fn (.func 120) [] [])),(7,(i6 (ws.length : Int))),(8,(i6 (k : Int)))],[]⟩) (fun (k : Nat) => k ≤ ws.length∧tG k (ws.drop k) = tG 0 ws) (fun (k : Nat) => ws.length - k)
theorem HC (ws : List Int) (hl : ws.length ≤ 9223372036854775807) : CC (NQ ws) := by
 refine an.vc (V := TT 4 (GO (rV ws) 0 (∀ k,(rV ws).inv k → TT 1 (CD ((k : Int) < (ws.length : Int)) (TT 5 (IX (k : Int) ws.length∧TT 1 (CC (KW (ws.getD k 0))∧CB (!(aA (ws.getD k 0))) (TT 3 ((k : Int) = (tG 0 ws)∧True)) (W6 ((k + 1 : Nat) : Int)∧TT 1 (AG (rV ws) k (k + 1)))))) (TT 2 ((-1) = (tG 0 ws)∧True)))))) (.l (rV ws) 0 (fun k => .b 9 (.w 4 [(5,(KW (ws.getD k 0)).O)] <| .b 16 (.e) (.w 6 [(0,.val (i6 ((k + 1 : Nat) : Int)))] <| .e)) (.e))) Tryz.func96 rfl rfl rfl (by kernel_rfl) ?_
 refine tt ⟨rfl,⟨by omega,by rw [List.drop_zero]⟩,?_⟩
 intro k hinv
 obtain ⟨hk,hx⟩ := hinv
 refine tt (cd (fun hc9 => ?_) (fun hc9 => ?_))
 · refine tt ⟨ix,tt ⟨(HB (ws.getD k 0)),⟨fun hc16 => ?_,fun hc16 => ?_⟩⟩⟩
   · refine tt ⟨?_,oK⟩
     rw [← hx,x9 (show k < ws.length by omega),if_neg (by simpa using hc16)]
   · refine ⟨w6,tt ⟨(k + 1),rfl,?_,(?_ : ws.length - (k + 1) < ws.length - k)⟩⟩
     · refine ⟨by omega,?_⟩
       rw [← hx,x9 (show k < ws.length by omega),if_pos (by simpa using hc16)]
     · omega
 · refine tt ⟨?_,oK⟩
   rw [← hx,List.drop_of_length_le (by omega)]; rfl
abbrev JG (ws : List Int) : Ct := ⟨72,[(LI ws),(.fn (.func 120) [] [])],false,(dB (!(ws.all aA)))⟩
theorem ll (ws : List Int) (hl : ws.length ≤ 9223372036854775807) : CC (JG ws) := by
 refine an.vc (V := TT 3 (CC (NQ ws)∧TT 3 ((decide ((tG 0 ws) ≥ 0)) = (!(ws.all aA))∧True))) (.w 1 [(2,(NQ ws).O)] <| .e) Tryz.func72 rfl rfl rfl (by kernel_rfl) ?_
 refine tt ⟨(HC ws om),tt ⟨?_,oK⟩⟩
 rw [← x7 ws 0]
abbrev NR (ws xs : List Int) (k w : Int) : Ct := ⟨122,[(.agg [(LI ws),(LI xs),(i6 k),(i6 w)])],false,(i6 (ws.getD 0 0))⟩
theorem HD (ws xs : List Int) (k w : Int) (hl : ws.length = 1) (hf : ws.all aA = true) : CC (NR ws xs k w) := by
 have f0 : 0 < ws.length → 1 ≤ ws.getD 0 0∧ws.getD 0 0 ≤ 8 := fun h => aL hf h
 have f1 : 1 < ws.length → 1 ≤ ws.getD 1 0∧ws.getD 1 0 ≤ 8 := fun h => aL hf h
 have f2 : 2 < ws.length → 1 ≤ ws.getD 2 0∧ws.getD 2 0 ≤ 8 := fun h => aL hf h
 refine an.vc (V := TT 4 (IX 0 ws.length∧TT 3 ((ws.getD 0 0) = (ws.getD 0 0)∧True))) (.e) Tryz.func122 rfl rfl rfl (by kernel_rfl) ?_
 exact tt ⟨ix,tt ⟨rfl,oK⟩⟩
abbrev KX (ws xs : List Int) (k w : Int) : Ct := ⟨125,[(.agg [(LI ws),(LI xs),(i6 k),(i6 w)])],false,(i6 (ck ws))⟩
theorem lX (ws xs : List Int) (k w : Int) (hl : ws.length = 2) (hf : ws.all aA = true) : CC (KX ws xs k w) := by
 have f0 : 0 < ws.length → 1 ≤ ws.getD 0 0∧ws.getD 0 0 ≤ 8 := fun h => aL hf h
 have f1 : 1 < ws.length → 1 ≤ ws.getD 1 0∧ws.getD 1 0 ≤ 8 := fun h => aL hf h
 have f2 : 2 < ws.length → 1 ≤ ws.getD 2 0∧ws.getD 2 0 ≤ 8 := fun h => aL hf h
 refine an.vc (V := TT 4 (IX 0 ws.length∧TT 3 (IX 1 ws.length∧TT 2 (CN ((ws.getD 0 0) = (ws.getD 1 0)) (TT 2 ((0 : Int) = (ck ws)∧True)) (TT 2 (IX 0 ws.length∧TT 3 ((ws.getD 0 0) = (ck ws)∧True))))))) (.b 11 (.e) (.e)) Tryz.func125 rfl rfl rfl (by kernel_rfl) ?_
 refine tt ⟨ix,tt ⟨ix,tt (cn (fun hc11 => ?_) (fun hc11 => ?_))⟩⟩
 · refine tt ⟨?_,oK⟩
   first | exact (if_pos (by simpa using hc11)).symm | exact (if_neg (by simpa using hc11)).symm
 · refine tt ⟨ix,tt ⟨?_,oK⟩⟩
   first | exact (if_pos (by simpa using hc11)).symm | exact (if_neg (by simpa using hc11)).symm
abbrev NS (ws xs : List Int) (k w : Int) : Ct := ⟨131,[(.agg [(LI ws),(LI xs),(i6 k),(i6 w)])],false,(i6 (min (ck ws) 1))⟩
theorem HF (ws xs : List Int) (k w : Int) (hl : ws.length = 2) (hf : ws.all aA = true) : CC (NS ws xs k w) := by
 have f0 : 0 < ws.length → 1 ≤ ws.getD 0 0∧ws.getD 0 0 ≤ 8 := fun h => aL hf h
 have f1 : 1 < ws.length → 1 ≤ ws.getD 1 0∧ws.getD 1 0 ≤ 8 := fun h => aL hf h
 have f2 : 2 < ws.length → 1 ≤ ws.getD 2 0∧ws.getD 2 0 ≤ 8 := fun h => aL hf h
 refine an.vc (V := TT 3 (CC (KX ws xs k w)∧(True∧(Cp (ck ws) 1) = (min (ck ws) 1))∧TT 2 ((min (ck ws) 1) = (min (ck ws) 1)∧True))) (.w 1 [(1,(KX ws xs k w).O),(2,.val (i6 (min (ck ws) 1)))] <| .e) Tryz.func131 rfl rfl rfl (by kernel_rfl) ?_
 exact tt ⟨(lX ws xs k w om hf),⟨⟨oK,(by unfold Cp; split <;> omega)⟩,tt ⟨rfl,oK⟩⟩⟩
abbrev NT (ws xs : List Int) (k w : Int) : Ct := ⟨135,[(.agg [(LI ws),(LI xs),(i6 k),(i6 w)])],false,(i6 (if aA w = false ∨ k < 0 ∨ ap w < k then 0 else w))⟩
theorem FW (ws xs : List Int) (k w : Int) (hl : ws.length = 0) (hf : ws.all aA = true) : CC (NT ws xs k w) := by
 have f0 : 0 < ws.length → 1 ≤ ws.getD 0 0∧ws.getD 0 0 ≤ 8 := fun h => aL hf h
 have f1 : 1 < ws.length → 1 ≤ ws.getD 1 0∧ws.getD 1 0 ≤ 8 := fun h => aL hf h
 have f2 : 2 < ws.length → 1 ≤ ws.getD 2 0∧ws.getD 2 0 ≤ 8 := fun h => aL hf h
 refine an.vc (V := TT 2 (CS ((aA w) = true) (CS (k < 0) (TT 2 (CC (jp w)∧TT 1 ((True∧(!(aA w)) = false)∧TT 4 ((True∧(decide (k < 0)) = true)∧TT 3 ((((0 : Int) = (if aA w = false ∨ k < 0 ∨ ap w < k then 0 else w)))∧True))))) (TT 2 (CC (jp w)∧TT 1 ((True∧(!(aA w)) = false)∧TT 4 ((True∧(decide (k < 0)) = false)∧TT 4 (CC (Hy w)∧TT 2 (CD (k > (ap w)) (TT 2 ((((0 : Int) = (if aA w = false ∨ k < 0 ∨ ap w < k then 0 else w)))∧True)) (TT 4 (((w = (if aA w = false ∨ k < 0 ∨ ap w < k then 0 else w)))∧True))))))))) (TT 2 (CC (jp w)∧TT 1 ((True∧(!(aA w)) = true)∧TT 5 ((((0 : Int) = (if aA w = false ∨ k < 0 ∨ ap w < k then 0 else w)))∧True)))))) (.s 1 ((aA w) = true) (.s 1 (k < 0) (.w 1 [(2,(jp w).O),(4,.val (dB false)),(9,.val (dB true))] <| .e) (.w 1 [(2,(jp w).O),(4,.val (dB false)),(9,.val (dB false)),(14,(Hy w).O)] <| .b 19 (.e) (.e))) (.w 1 [(2,(jp w).O),(4,.val (dB true))] <| .e)) Tryz.func135 rfl rfl rfl (by kernel_rfl) ?_
 refine tt ⟨fun hs0 => ?_,fun hs0 => ?_⟩
 · refine ⟨fun hs1 => ?_,fun hs1 => ?_⟩
   · refine tt ⟨(eK w),tt ⟨(mF hs0),tt ⟨(vT hs1),tt ⟨?_,oK⟩⟩⟩⟩
     first | exact (if_pos (by first | assumption | omega)).symm | exact (if_neg (by first | assumption | omega)).symm | (split <;> first | rfl | omega | (simp_all; done) | (simp_all; omega))
   · refine tt ⟨(eK w),tt ⟨(mF hs0),tt ⟨(vF hs1),tt ⟨(rU w),tt (cd (fun hc19 => ?_) (fun hc19 => ?_))⟩⟩⟩⟩
     · refine tt ⟨?_,oK⟩
       first | exact (if_pos (by first | assumption | omega)).symm | exact (if_neg (by first | assumption | omega)).symm | (split <;> first | rfl | omega | (simp_all; done) | (simp_all; omega))
     · refine tt ⟨?_,oK⟩
       first | exact (if_pos (by first | assumption | omega)).symm | exact (if_neg (by first | assumption | omega)).symm | (split <;> first | rfl | omega | (simp_all; done) | (simp_all; omega))
 · refine tt ⟨(eK w),tt ⟨(mT hs0),tt ⟨?_,oK⟩⟩⟩
   first | exact (if_pos (by first | assumption | omega)).symm | exact (if_neg (by first | assumption | omega)).symm | (split <;> first | rfl | omega | (simp_all; done) | (simp_all; omega))
abbrev NU (ws xs : List Int) (k w : Int) : Ct := ⟨137,[(.agg [(LI ws),(LI xs),(i6 k),(i6 w)])],false,(i6 (if ws.getD 0 0 ≠ 1 ∨ ws.getD 1 0 ≠ ws.getD 2 0 then 0 else ws.getD 1 0))⟩
theorem JH (ws xs : List Int) (k w : Int) (hl : ws.length = 3) (hf : ws.all aA = true) : CC (NU ws xs k w) := by
 have f0 : 0 < ws.length → 1 ≤ ws.getD 0 0∧ws.getD 0 0 ≤ 8 := fun h => aL hf h
 have f1 : 1 < ws.length → 1 ≤ ws.getD 1 0∧ws.getD 1 0 ≤ 8 := fun h => aL hf h
 have f2 : 2 < ws.length → 1 ≤ ws.getD 2 0∧ws.getD 2 0 ≤ 8 := fun h => aL hf h
 refine an.vc (V := TT 2 (CS ((ws.getD 0 0) = 1) (TT 2 (IX 0 ws.length∧TT 2 ((True∧(!decide ((ws.getD 0 0) = 1)) = false)∧TT 2 (IX 1 ws.length∧TT 3 (IX 2 ws.length∧TT 3 (CN ((ws.getD 1 0) = (ws.getD 2 0)) (TT 2 ((((0 : Int) = (if ws.getD 0 0 ≠ 1 ∨ ws.getD 1 0 ≠ ws.getD 2 0 then 0 else ws.getD 1 0)))∧True)) (TT 2 (IX 1 ws.length∧TT 3 ((((ws.getD 1 0) = (if ws.getD 0 0 ≠ 1 ∨ ws.getD 1 0 ≠ ws.getD 2 0 then 0 else ws.getD 1 0)))∧True))))))))) (TT 2 (IX 0 ws.length∧TT 2 ((True∧(!decide ((ws.getD 0 0) = 1)) = true)∧TT 3 ((((0 : Int) = (if ws.getD 0 0 ≠ 1 ∨ ws.getD 1 0 ≠ ws.getD 2 0 then 0 else ws.getD 1 0)))∧True)))))) (.s 1 ((ws.getD 0 0) = 1) (.w 1 [(5,.val (dB false))] <| .b 18 (.e) (.e)) (.w 1 [(5,.val (dB true))] <| .e)) Tryz.func137 rfl rfl rfl (by kernel_rfl) ?_
 refine tt ⟨fun hs0 => ?_,fun hs0 => ?_⟩
 · refine tt ⟨ix,tt ⟨(nF hs0),tt ⟨ix,tt ⟨ix,tt (cn (fun hc18 => ?_) (fun hc18 => ?_))⟩⟩⟩⟩
   · refine tt ⟨?_,oK⟩
     first | exact (if_pos (by first | assumption | omega)).symm | exact (if_neg (by first | assumption | omega)).symm | (split <;> first | rfl | omega | (simp_all; done) | (simp_all; omega))
   · refine tt ⟨ix,tt ⟨?_,oK⟩⟩
     first | exact (if_pos (by first | assumption | omega)).symm | exact (if_neg (by first | assumption | omega)).symm | (split <;> first | rfl | omega | (simp_all; done) | (simp_all; omega))
 · refine tt ⟨ix,tt ⟨(nT hs0),tt ⟨?_,oK⟩⟩⟩
   first | exact (if_pos (by first | assumption | omega)).symm | exact (if_neg (by first | assumption | omega)).symm | (split <;> first | rfl | omega | (simp_all; done) | (simp_all; omega))
abbrev NV (ws xs : List Int) (k w : Int) : Ct := ⟨139,[(.agg [(LI ws),(LI xs),(i6 k),(i6 w)])],false,(i6 (ws.getD 0 0 + ws.getD 1 0))⟩
theorem JI (ws xs : List Int) (k w : Int) (hl : ws.length = 2) (hf : ws.all aA = true) : CC (NV ws xs k w) := by
 have f0 : 0 < ws.length → 1 ≤ ws.getD 0 0∧ws.getD 0 0 ≤ 8 := fun h => aL hf h
 have f1 : 1 < ws.length → 1 ≤ ws.getD 1 0∧ws.getD 1 0 ≤ 8 := fun h => aL hf h
 have f2 : 2 < ws.length → 1 ≤ ws.getD 2 0∧ws.getD 2 0 ≤ 8 := fun h => aL hf h
 refine an.vc (V := TT 4 (IX 0 ws.length∧TT 3 (IX 1 ws.length∧TT 1 (W6 ((ws.getD 0 0) + (ws.getD 1 0))∧TT 2 (((ws.getD 0 0) + (ws.getD 1 0)) = (ws.getD 0 0 + ws.getD 1 0)∧True))))) (.w 1 [(8,.val (i6 ((ws.getD 0 0) + (ws.getD 1 0))))] <| .e) Tryz.func139 rfl rfl rfl (by kernel_rfl) ?_
 refine tt ⟨ix,tt ⟨ix,tt ⟨w6,tt ⟨?_,oK⟩⟩⟩⟩
 first | rfl | omega | (simp; first | done | omega)
abbrev NW (ws xs : List Int) (k w : Int) : Ct := ⟨141,[(.agg [(LI ws),(LI xs),(i6 k),(i6 w)])],false,(i6 (if aA w = false ∨ k < 0 ∨ ws.getD 0 0 - w < k then 0 else w))⟩
theorem FX (ws xs : List Int) (k w : Int) (hl : ws.length = 1) (hf : ws.all aA = true) : CC (NW ws xs k w) := by
 have f0 : 0 < ws.length → 1 ≤ ws.getD 0 0∧ws.getD 0 0 ≤ 8 := fun h => aL hf h
 have f1 : 1 < ws.length → 1 ≤ ws.getD 1 0∧ws.getD 1 0 ≤ 8 := fun h => aL hf h
 have f2 : 2 < ws.length → 1 ≤ ws.getD 2 0∧ws.getD 2 0 ≤ 8 := fun h => aL hf h
 refine an.vc (V := TT 2 (CS ((aA w) = true) (CS (k < 0) (TT 2 (CC (jp w)∧TT 1 ((True∧(!(aA w)) = false)∧TT 4 ((True∧(decide (k < 0)) = true)∧TT 3 ((((0 : Int) = (if aA w = false ∨ k < 0 ∨ ws.getD 0 0 - w < k then 0 else w)))∧True))))) (TT 2 (CC (jp w)∧TT 1 ((True∧(!(aA w)) = false)∧TT 4 ((True∧(decide (k < 0)) = false)∧TT 4 (IX 0 ws.length∧TT 3 (W6 ((ws.getD 0 0) - w)∧TT 2 (CD (k > ((ws.getD 0 0) - w)) (TT 2 ((((0 : Int) = (if aA w = false ∨ k < 0 ∨ ws.getD 0 0 - w < k then 0 else w)))∧True)) (TT 4 (((w = (if aA w = false ∨ k < 0 ∨ ws.getD 0 0 - w < k then 0 else w)))∧True)))))))))) (TT 2 (CC (jp w)∧TT 1 ((True∧(!(aA w)) = true)∧TT 5 ((((0 : Int) = (if aA w = false ∨ k < 0 ∨ ws.getD 0 0 - w < k then 0 else w)))∧True)))))) (.s 1 ((aA w) = true) (.s 1 (k < 0) (.w 1 [(2,(jp w).O),(4,.val (dB false)),(9,.val (dB true))] <| .e) (.w 1 [(2,(jp w).O),(4,.val (dB false)),(9,.val (dB false)),(18,.val (i6 ((ws.getD 0 0) - w)))] <| .b 23 (.e) (.e))) (.w 1 [(2,(jp w).O),(4,.val (dB true))] <| .e)) Tryz.func141 rfl rfl rfl (by kernel_rfl) ?_
 refine tt ⟨fun hs0 => ?_,fun hs0 => ?_⟩
 · refine ⟨fun hs1 => ?_,fun hs1 => ?_⟩
   · refine tt ⟨(eK w),tt ⟨(mF hs0),tt ⟨(vT hs1),tt ⟨?_,oK⟩⟩⟩⟩
     first | exact (if_pos (by first | assumption | omega)).symm | exact (if_neg (by first | assumption | omega)).symm | (split <;> first | rfl | omega | (simp_all; done) | (simp_all; omega))
   · refine tt ⟨(eK w),tt ⟨(mF hs0),tt ⟨(vF hs1),tt ⟨ix,tt ⟨(w6 (by have := bc.1 (show aA w = true by simp_all); omega) (by have := bc.1 (show aA w = true by simp_all); omega)),tt (cd (fun hc23 => ?_) (fun hc23 => ?_))⟩⟩⟩⟩⟩
     · refine tt ⟨?_,oK⟩
       first | exact (if_pos (by first | assumption | omega)).symm | exact (if_neg (by first | assumption | omega)).symm | (split <;> first | rfl | omega | (simp_all; done) | (simp_all; omega))
     · refine tt ⟨?_,oK⟩
       first | exact (if_pos (by first | assumption | omega)).symm | exact (if_neg (by first | assumption | omega)).symm | (split <;> first | rfl | omega | (simp_all; done) | (simp_all; omega))
 · refine tt ⟨(eK w),tt ⟨(mT hs0),tt ⟨?_,oK⟩⟩⟩
   first | exact (if_pos (by first | assumption | omega)).symm | exact (if_neg (by first | assumption | omega)).symm | (split <;> first | rfl | omega | (simp_all; done) | (simp_all; omega))
abbrev NX (ws xs : List Int) (k w : Int) : Ct := ⟨143,[(.agg [(LI ws),(LI xs),(i6 k),(i6 w)])],false,(i6 (if w < ws.getD 0 0 then 0 else w))⟩
theorem JJ (ws xs : List Int) (k w : Int) (hl : ws.length = 1) (hf : ws.all aA = true) : CC (NX ws xs k w) := by
 have f0 : 0 < ws.length → 1 ≤ ws.getD 0 0∧ws.getD 0 0 ≤ 8 := fun h => aL hf h
 have f1 : 1 < ws.length → 1 ≤ ws.getD 1 0∧ws.getD 1 0 ≤ 8 := fun h => aL hf h
 have f2 : 2 < ws.length → 1 ≤ ws.getD 2 0∧ws.getD 2 0 ≤ 8 := fun h => aL hf h
 refine an.vc (V := TT 6 (IX 0 ws.length∧TT 2 (CD (w < (ws.getD 0 0)) (TT 2 ((0 : Int) = (if w < ws.getD 0 0 then 0 else w)∧True)) (TT 4 (w = (if w < ws.getD 0 0 then 0 else w)∧True))))) (.b 9 (.e) (.e)) Tryz.func143 rfl rfl rfl (by kernel_rfl) ?_
 refine tt ⟨ix,tt (cd (fun hc9 => ?_) (fun hc9 => ?_))⟩
 · refine tt ⟨?_,oK⟩
   first | exact (if_pos (by first | assumption | omega)).symm | exact (if_neg (by first | assumption | omega)).symm | (split <;> first | rfl | omega | (simp_all; done) | (simp_all; omega))
 · refine tt ⟨?_,oK⟩
   first | exact (if_pos (by first | assumption | omega)).symm | exact (if_neg (by first | assumption | omega)).symm | (split <;> first | rfl | omega | (simp_all; done) | (simp_all; omega))
end Go.Proofs.YtifoecfajmnjjaaGreat
