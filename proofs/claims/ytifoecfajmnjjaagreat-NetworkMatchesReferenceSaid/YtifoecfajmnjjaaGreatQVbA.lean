/-
  Package bits: widths and values of operations.
-/
import Derived.Test.YtifoecfajmnjjaaGreatQVp
import Derived.Test.YtifoecfajmnjjaaGreatQBitP
namespace Go.Proofs.YtifoecfajmnjjaaGreat
open Go.RowKit
set_option linter.unusedVariables false
set_option linter.unusedSimpArgs false
set_option maxRecDepth 100000
abbrev gz (n : Int) : Ct := ⟨121,[(i6 n)],false,(dB (au n))⟩
theorem du (n : Int) : CC (gz n) := by
 refine ai.vc (V := TT 1 (CS (n ≥ 1) (TT 2 ((True∧(decide (n ≥ 1)) = true)∧TT 5 ((decide (n ≤ 8)) = (au n)∧True))) (TT 2 ((True∧(decide (n ≥ 1)) = false)∧TT 5 (false = (au n)∧True))))) (.s 1 (n ≥ 1) (.w 1 [(2,.val (dB true))] <| .e) (.w 1 [(2,.val (dB false))] <| .e)) Tryz.func121 rfl rfl rfl (by kernel_rfl) ?_
 refine tt ⟨fun hs0 => ?_,fun hs0 => ?_⟩
 · refine tt ⟨(vT hs0),tt ⟨?_,oK⟩⟩
   unfold au; simp; omega
 · refine tt ⟨(vF hs0),tt ⟨?_,oK⟩⟩
   unfold au; simp; omega
abbrev D1 (w : Int) : Ct := ⟨95,[(i6 w)],false,(i6 (aj w))⟩
theorem pc (w : Int) : CC (D1 w) := by
 refine ai.vc (V := TT 1 (CS (w < 0) (TT 2 ((True∧(decide (w < 0)) = true)∧TT 5 ((0 : Int) = (aj w)∧True))) (TT 2 ((True∧(decide (w < 0)) = false)∧TT 3 (CD (w > 62) (TT 2 ((0 : Int) = (aj w)∧True)) (TT 1 (SH w∧W6 ((2 ^ w.toNat) - 1)∧TT 2 (((2 ^ w.toNat) - 1) = (aj w)∧True)))))))) (.s 1 (w < 0) (.w 1 [(2,.val (dB true))] <| .e) (.w 1 [(2,.val (dB false))] <| .b 8 (.e) (.w 3 [(1,.val (i6 (2 ^ w.toNat))),(2,.val (i6 ((2 ^ w.toNat) - 1)))] <| .e))) Tryz.func95 rfl rfl rfl (by kernel_rfl) ?_
 refine tt ⟨fun hs0 => ?_,fun hs0 => ?_⟩
 · refine tt ⟨(vT hs0),tt ⟨?_,oK⟩⟩
   unfold aj; first | exact (if_pos (by omega)).symm | exact (if_neg (by omega)).symm
 · refine tt ⟨(vF hs0),tt (cd (fun hc8 => ?_) (fun hc8 => ?_))⟩
   · refine tt ⟨?_,oK⟩
     unfold aj; first | exact (if_pos (by omega)).symm | exact (if_neg (by omega)).symm
   · refine tt ⟨sh,⟨(w6 (by have := lx (n := w.toNat) (by omega); omega) (by have := lx (n := w.toNat) (by omega); omega)),tt ⟨?_,oK⟩⟩⟩
     unfold aj; first | exact (if_pos (by omega)).symm | exact (if_neg (by omega)).symm
abbrev D2 (b : Bool) : Ct := ⟨133,[(dB b)],false,(i6 (if b = true then 1 else 0))⟩
theorem D3 (b : Bool) : CC (D2 b) := by
 refine ai.vc (V := TT 2 (CB (b) (TT 2 ((1 : Int) = (if b = true then 1 else 0)∧True)) (TT 2 ((0 : Int) = (if b = true then 1 else 0)∧True)))) (.b 3 (.e) (.e)) Tryz.func133 rfl rfl rfl (by kernel_rfl) ?_
 refine tt ⟨fun hc3 => ?_,fun hc3 => ?_⟩
 · refine tt ⟨?_,oK⟩
   first | exact (if_pos hc3).symm | exact (if_neg (by rw [hc3]; simp)).symm
 · refine tt ⟨?_,oK⟩
   first | exact (if_pos hc3).symm | exact (if_neg (by rw [hc3]; simp)).symm
abbrev Hn (n : Int) : Ct := ⟨120,[(i6 n)],false,(dB (!(au n)))⟩
theorem D4 (n : Int) : CC (Hn n) := by
 refine ai.vc (V := TT 2 (CC (gz n)∧TT 3 ((!(au n)) = (!(au n))∧True))) (.w 1 [(1,(gz n).O)] <| .e) Tryz.func120 rfl rfl rfl (by kernel_rfl) ?_
 exact tt ⟨(du n),tt ⟨rfl,oK⟩⟩
abbrev J3 (ws : List Int) : Ct := ⟨96,[(LI ws),(.fn (.func 120) [] [])],false,(i6 (qH 0 ws))⟩
abbrev pg (ws : List Int) : Lp (Nat) := fC [0,1,7,8] 0 (fun (k : Nat) => ⟨[(0,(LI ws)),(1,(.fn (.func 120) [] [])),(7,(i6 (ws.length : Int))),(8,(i6 (k : Int)))],[]⟩) (fun (k : Nat) => k ≤ ws.length∧qH k (ws.drop k) = qH 0 ws) (fun (k : Nat) => ws.length - k)
theorem D5 (ws : List Int) (hl : ws.length ≤ 9223372036854775807) : CC (J3 ws) := by
 refine ai.vc (V := TT 4 (GO (pg ws) 0 (∀ k,(pg ws).inv k → TT 1 (CD ((k : Int) < (ws.length : Int)) (TT 5 (IX (k : Int) ws.length∧TT 1 (CC (Hn (ws.getD k 0))∧CB (!(au (ws.getD k 0))) (TT 3 ((k : Int) = (qH 0 ws)∧True)) (W6 ((k + 1 : Nat) : Int)∧TT 1 (AG (pg ws) k (k + 1)))))) (TT 2 ((-1) = (qH 0 ws)∧True)))))) (.l (pg ws) 0 (fun k => .b 9 (.w 4 [(5,(Hn (ws.getD k 0)).O)] <| .b 16 (.e) (.w 6 [(0,.val (i6 ((k + 1 : Nat) : Int)))] <| .e)) (.e))) Tryz.func96 rfl rfl rfl (by kernel_rfl) ?_
 refine tt ⟨rfl,⟨by omega,by rw [List.drop_zero]⟩,?_⟩
 intro k hinv
 obtain ⟨hk,hx⟩ := hinv
 refine tt (cd (fun hc9 => ?_) (fun hc9 => ?_))
 · refine tt ⟨ix,tt ⟨(D4 (ws.getD k 0)),⟨fun hc16 => ?_,fun hc16 => ?_⟩⟩⟩
   · refine tt ⟨?_,oK⟩
     rw [← hx,uR (show k < ws.length by omega),if_neg (by simpa using hc16)]
   · refine ⟨w6,tt ⟨(k + 1),rfl,?_,(?_ : ws.length - (k + 1) < ws.length - k)⟩⟩
     · refine ⟨by omega,?_⟩
       rw [← hx,uR (show k < ws.length by omega),if_pos (by simpa using hc16)]
     · omega
 · refine tt ⟨?_,oK⟩
   rw [← hx,List.drop_of_length_le (by omega)]; rfl
abbrev FZ (ws : List Int) : Ct := ⟨72,[(LI ws),(.fn (.func 120) [] [])],false,(dB (!(ws.all au)))⟩
theorem i7 (ws : List Int) (hl : ws.length ≤ 9223372036854775807) : CC (FZ ws) := by
 refine ai.vc (V := TT 3 (CC (J3 ws)∧TT 3 ((decide ((qH 0 ws) ≥ 0)) = (!(ws.all au))∧True))) (.w 1 [(2,(J3 ws).O)] <| .e) Tryz.func72 rfl rfl rfl (by kernel_rfl) ?_
 refine tt ⟨(D5 ws om),tt ⟨?_,oK⟩⟩
 rw [← uQ ws 0]
abbrev J4 (ws xs : List Int) (k w : Int) : Ct := ⟨122,[(.agg [(LI ws),(LI xs),(i6 k),(i6 w)])],false,(i6 (ws.getD 0 0))⟩
theorem D6 (ws xs : List Int) (k w : Int) (hl : ws.length = 1) (hf : ws.all au = true) : CC (J4 ws xs k w) := by
 have f0 : 0 < ws.length → 1 ≤ ws.getD 0 0∧ws.getD 0 0 ≤ 8 := fun h => aC hf h
 have f1 : 1 < ws.length → 1 ≤ ws.getD 1 0∧ws.getD 1 0 ≤ 8 := fun h => aC hf h
 have f2 : 2 < ws.length → 1 ≤ ws.getD 2 0∧ws.getD 2 0 ≤ 8 := fun h => aC hf h
 refine ai.vc (V := TT 4 (IX 0 ws.length∧TT 3 ((ws.getD 0 0) = (ws.getD 0 0)∧True))) (.e) Tryz.func122 rfl rfl rfl (by kernel_rfl) ?_
 exact tt ⟨ix,tt ⟨rfl,oK⟩⟩
abbrev Ho (ws xs : List Int) (k w : Int) : Ct := ⟨125,[(.agg [(LI ws),(LI xs),(i6 k),(i6 w)])],false,(i6 (bJ ws))⟩
theorem jx (ws xs : List Int) (k w : Int) (hl : ws.length = 2) (hf : ws.all au = true) : CC (Ho ws xs k w) := by
 have f0 : 0 < ws.length → 1 ≤ ws.getD 0 0∧ws.getD 0 0 ≤ 8 := fun h => aC hf h
 have f1 : 1 < ws.length → 1 ≤ ws.getD 1 0∧ws.getD 1 0 ≤ 8 := fun h => aC hf h
 have f2 : 2 < ws.length → 1 ≤ ws.getD 2 0∧ws.getD 2 0 ≤ 8 := fun h => aC hf h
 refine ai.vc (V := TT 4 (IX 0 ws.length∧TT 3 (IX 1 ws.length∧TT 2 (CN ((ws.getD 0 0) = (ws.getD 1 0)) (TT 2 ((0 : Int) = (bJ ws)∧True)) (TT 2 (IX 0 ws.length∧TT 3 ((ws.getD 0 0) = (bJ ws)∧True))))))) (.b 11 (.e) (.e)) Tryz.func125 rfl rfl rfl (by kernel_rfl) ?_
 refine tt ⟨ix,tt ⟨ix,tt (cn (fun hc11 => ?_) (fun hc11 => ?_))⟩⟩
 · refine tt ⟨?_,oK⟩
   first | exact (if_pos (by simpa using hc11)).symm | exact (if_neg (by simpa using hc11)).symm
 · refine tt ⟨ix,tt ⟨?_,oK⟩⟩
   first | exact (if_pos (by simpa using hc11)).symm | exact (if_neg (by simpa using hc11)).symm
abbrev J5 (ws xs : List Int) (k w : Int) : Ct := ⟨131,[(.agg [(LI ws),(LI xs),(i6 k),(i6 w)])],false,(i6 (min (bJ ws) 1))⟩
theorem D7 (ws xs : List Int) (k w : Int) (hl : ws.length = 2) (hf : ws.all au = true) : CC (J5 ws xs k w) := by
 have f0 : 0 < ws.length → 1 ≤ ws.getD 0 0∧ws.getD 0 0 ≤ 8 := fun h => aC hf h
 have f1 : 1 < ws.length → 1 ≤ ws.getD 1 0∧ws.getD 1 0 ≤ 8 := fun h => aC hf h
 have f2 : 2 < ws.length → 1 ≤ ws.getD 2 0∧ws.getD 2 0 ≤ 8 := fun h => aC hf h
 refine ai.vc (V := TT 3 (CC (Ho ws xs k w)∧(True∧(y7 (bJ ws) 1) = (min (bJ ws) 1))∧TT 2 ((min (bJ ws) 1) = (min (bJ ws) 1)∧True))) (.w 1 [(1,(Ho ws xs k w).O),(2,.val (i6 (min (bJ ws) 1)))] <| .e) Tryz.func131 rfl rfl rfl (by kernel_rfl) ?_
 exact tt ⟨(jx ws xs k w om hf),⟨⟨oK,(by unfold y7; split <;> omega)⟩,tt ⟨rfl,oK⟩⟩⟩
abbrev J6 (ws xs : List Int) (k w : Int) : Ct := ⟨135,[(.agg [(LI ws),(LI xs),(i6 k),(i6 w)])],false,(i6 (if au w = false ∨ k < 0 ∨ aj w < k then 0 else w))⟩
theorem Cj (ws xs : List Int) (k w : Int) (hl : ws.length = 0) (hf : ws.all au = true) : CC (J6 ws xs k w) := by
 have f0 : 0 < ws.length → 1 ≤ ws.getD 0 0∧ws.getD 0 0 ≤ 8 := fun h => aC hf h
 have f1 : 1 < ws.length → 1 ≤ ws.getD 1 0∧ws.getD 1 0 ≤ 8 := fun h => aC hf h
 have f2 : 2 < ws.length → 1 ≤ ws.getD 2 0∧ws.getD 2 0 ≤ 8 := fun h => aC hf h
 refine ai.vc (V := TT 2 (CS ((au w) = true) (CS (k < 0) (TT 2 (CC (gz w)∧TT 1 ((True∧(!(au w)) = false)∧TT 4 ((True∧(decide (k < 0)) = true)∧TT 3 ((((0 : Int) = (if au w = false ∨ k < 0 ∨ aj w < k then 0 else w)))∧True))))) (TT 2 (CC (gz w)∧TT 1 ((True∧(!(au w)) = false)∧TT 4 ((True∧(decide (k < 0)) = false)∧TT 4 (CC (D1 w)∧TT 2 (CD (k > (aj w)) (TT 2 ((((0 : Int) = (if au w = false ∨ k < 0 ∨ aj w < k then 0 else w)))∧True)) (TT 4 (((w = (if au w = false ∨ k < 0 ∨ aj w < k then 0 else w)))∧True))))))))) (TT 2 (CC (gz w)∧TT 1 ((True∧(!(au w)) = true)∧TT 5 ((((0 : Int) = (if au w = false ∨ k < 0 ∨ aj w < k then 0 else w)))∧True)))))) (.s 1 ((au w) = true) (.s 1 (k < 0) (.w 1 [(2,(gz w).O),(4,.val (dB false)),(9,.val (dB true))] <| .e) (.w 1 [(2,(gz w).O),(4,.val (dB false)),(9,.val (dB false)),(14,(D1 w).O)] <| .b 19 (.e) (.e))) (.w 1 [(2,(gz w).O),(4,.val (dB true))] <| .e)) Tryz.func135 rfl rfl rfl (by kernel_rfl) ?_
 refine tt ⟨fun hs0 => ?_,fun hs0 => ?_⟩
 · refine ⟨fun hs1 => ?_,fun hs1 => ?_⟩
   · refine tt ⟨(du w),tt ⟨(mF hs0),tt ⟨(vT hs1),tt ⟨?_,oK⟩⟩⟩⟩
     first | exact (if_pos (by first | assumption | omega)).symm | exact (if_neg (by first | assumption | omega)).symm | (split <;> first | rfl | omega | (simp_all; done) | (simp_all; omega))
   · refine tt ⟨(du w),tt ⟨(mF hs0),tt ⟨(vF hs1),tt ⟨(pc w),tt (cd (fun hc19 => ?_) (fun hc19 => ?_))⟩⟩⟩⟩
     · refine tt ⟨?_,oK⟩
       first | exact (if_pos (by first | assumption | omega)).symm | exact (if_neg (by first | assumption | omega)).symm | (split <;> first | rfl | omega | (simp_all; done) | (simp_all; omega))
     · refine tt ⟨?_,oK⟩
       first | exact (if_pos (by first | assumption | omega)).symm | exact (if_neg (by first | assumption | omega)).symm | (split <;> first | rfl | omega | (simp_all; done) | (simp_all; omega))
 · refine tt ⟨(du w),tt ⟨(mT hs0),tt ⟨?_,oK⟩⟩⟩
   first | exact (if_pos (by first | assumption | omega)).symm | exact (if_neg (by first | assumption | omega)).symm | (split <;> first | rfl | omega | (simp_all; done) | (simp_all; omega))
abbrev J7 (ws xs : List Int) (k w : Int) : Ct := ⟨137,[(.agg [(LI ws),(LI xs),(i6 k),(i6 w)])],false,(i6 (if ws.getD 0 0 ≠ 1 ∨ ws.getD 1 0 ≠ ws.getD 2 0 then 0 else ws.getD 1 0))⟩
theorem F0 (ws xs : List Int) (k w : Int) (hl : ws.length = 3) (hf : ws.all au = true) : CC (J7 ws xs k w) := by
 have f0 : 0 < ws.length → 1 ≤ ws.getD 0 0∧ws.getD 0 0 ≤ 8 := fun h => aC hf h
 have f1 : 1 < ws.length → 1 ≤ ws.getD 1 0∧ws.getD 1 0 ≤ 8 := fun h => aC hf h
 have f2 : 2 < ws.length → 1 ≤ ws.getD 2 0∧ws.getD 2 0 ≤ 8 := fun h => aC hf h
 refine ai.vc (V := TT 2 (CS ((ws.getD 0 0) = 1) (TT 2 (IX 0 ws.length∧TT 2 ((True∧(!decide ((ws.getD 0 0) = 1)) = false)∧TT 2 (IX 1 ws.length∧TT 3 (IX 2 ws.length∧TT 3 (CN ((ws.getD 1 0) = (ws.getD 2 0)) (TT 2 ((((0 : Int) = (if ws.getD 0 0 ≠ 1 ∨ ws.getD 1 0 ≠ ws.getD 2 0 then 0 else ws.getD 1 0)))∧True)) (TT 2 (IX 1 ws.length∧TT 3 ((((ws.getD 1 0) = (if ws.getD 0 0 ≠ 1 ∨ ws.getD 1 0 ≠ ws.getD 2 0 then 0 else ws.getD 1 0)))∧True))))))))) (TT 2 (IX 0 ws.length∧TT 2 ((True∧(!decide ((ws.getD 0 0) = 1)) = true)∧TT 3 ((((0 : Int) = (if ws.getD 0 0 ≠ 1 ∨ ws.getD 1 0 ≠ ws.getD 2 0 then 0 else ws.getD 1 0)))∧True)))))) (.s 1 ((ws.getD 0 0) = 1) (.w 1 [(5,.val (dB false))] <| .b 18 (.e) (.e)) (.w 1 [(5,.val (dB true))] <| .e)) Tryz.func137 rfl rfl rfl (by kernel_rfl) ?_
 refine tt ⟨fun hs0 => ?_,fun hs0 => ?_⟩
 · refine tt ⟨ix,tt ⟨(nF hs0),tt ⟨ix,tt ⟨ix,tt (cn (fun hc18 => ?_) (fun hc18 => ?_))⟩⟩⟩⟩
   · refine tt ⟨?_,oK⟩
     first | exact (if_pos (by first | assumption | omega)).symm | exact (if_neg (by first | assumption | omega)).symm | (split <;> first | rfl | omega | (simp_all; done) | (simp_all; omega))
   · refine tt ⟨ix,tt ⟨?_,oK⟩⟩
     first | exact (if_pos (by first | assumption | omega)).symm | exact (if_neg (by first | assumption | omega)).symm | (split <;> first | rfl | omega | (simp_all; done) | (simp_all; omega))
 · refine tt ⟨ix,tt ⟨(nT hs0),tt ⟨?_,oK⟩⟩⟩
   first | exact (if_pos (by first | assumption | omega)).symm | exact (if_neg (by first | assumption | omega)).symm | (split <;> first | rfl | omega | (simp_all; done) | (simp_all; omega))
abbrev J8 (ws xs : List Int) (k w : Int) : Ct := ⟨139,[(.agg [(LI ws),(LI xs),(i6 k),(i6 w)])],false,(i6 (ws.getD 0 0 + ws.getD 1 0))⟩
theorem F1 (ws xs : List Int) (k w : Int) (hl : ws.length = 2) (hf : ws.all au = true) : CC (J8 ws xs k w) := by
 have f0 : 0 < ws.length → 1 ≤ ws.getD 0 0∧ws.getD 0 0 ≤ 8 := fun h => aC hf h
 have f1 : 1 < ws.length → 1 ≤ ws.getD 1 0∧ws.getD 1 0 ≤ 8 := fun h => aC hf h
 have f2 : 2 < ws.length → 1 ≤ ws.getD 2 0∧ws.getD 2 0 ≤ 8 := fun h => aC hf h
 refine ai.vc (V := TT 4 (IX 0 ws.length∧TT 3 (IX 1 ws.length∧TT 1 (W6 ((ws.getD 0 0) + (ws.getD 1 0))∧TT 2 (((ws.getD 0 0) + (ws.getD 1 0)) = (ws.getD 0 0 + ws.getD 1 0)∧True))))) (.w 1 [(8,.val (i6 ((ws.getD 0 0) + (ws.getD 1 0))))] <| .e) Tryz.func139 rfl rfl rfl (by kernel_rfl) ?_
 refine tt ⟨ix,tt ⟨ix,tt ⟨w6,tt ⟨?_,oK⟩⟩⟩⟩
 first | rfl | omega | (simp; first | done | omega)
abbrev J9 (ws xs : List Int) (k w : Int) : Ct := ⟨141,[(.agg [(LI ws),(LI xs),(i6 k),(i6 w)])],false,(i6 (if au w = false ∨ k < 0 ∨ ws.getD 0 0 - w < k then 0 else w))⟩
theorem Ck (ws xs : List Int) (k w : Int) (hl : ws.length = 1) (hf : ws.all au = true) : CC (J9 ws xs k w) := by
 have f0 : 0 < ws.length → 1 ≤ ws.getD 0 0∧ws.getD 0 0 ≤ 8 := fun h => aC hf h
 have f1 : 1 < ws.length → 1 ≤ ws.getD 1 0∧ws.getD 1 0 ≤ 8 := fun h => aC hf h
 have f2 : 2 < ws.length → 1 ≤ ws.getD 2 0∧ws.getD 2 0 ≤ 8 := fun h => aC hf h
 refine ai.vc (V := TT 2 (CS ((au w) = true) (CS (k < 0) (TT 2 (CC (gz w)∧TT 1 ((True∧(!(au w)) = false)∧TT 4 ((True∧(decide (k < 0)) = true)∧TT 3 ((((0 : Int) = (if au w = false ∨ k < 0 ∨ ws.getD 0 0 - w < k then 0 else w)))∧True))))) (TT 2 (CC (gz w)∧TT 1 ((True∧(!(au w)) = false)∧TT 4 ((True∧(decide (k < 0)) = false)∧TT 4 (IX 0 ws.length∧TT 3 (W6 ((ws.getD 0 0) - w)∧TT 2 (CD (k > ((ws.getD 0 0) - w)) (TT 2 ((((0 : Int) = (if au w = false ∨ k < 0 ∨ ws.getD 0 0 - w < k then 0 else w)))∧True)) (TT 4 (((w = (if au w = false ∨ k < 0 ∨ ws.getD 0 0 - w < k then 0 else w)))∧True)))))))))) (TT 2 (CC (gz w)∧TT 1 ((True∧(!(au w)) = true)∧TT 5 ((((0 : Int) = (if au w = false ∨ k < 0 ∨ ws.getD 0 0 - w < k then 0 else w)))∧True)))))) (.s 1 ((au w) = true) (.s 1 (k < 0) (.w 1 [(2,(gz w).O),(4,.val (dB false)),(9,.val (dB true))] <| .e) (.w 1 [(2,(gz w).O),(4,.val (dB false)),(9,.val (dB false)),(18,.val (i6 ((ws.getD 0 0) - w)))] <| .b 23 (.e) (.e))) (.w 1 [(2,(gz w).O),(4,.val (dB true))] <| .e)) Tryz.func141 rfl rfl rfl (by kernel_rfl) ?_
 refine tt ⟨fun hs0 => ?_,fun hs0 => ?_⟩
 · refine ⟨fun hs1 => ?_,fun hs1 => ?_⟩
   · refine tt ⟨(du w),tt ⟨(mF hs0),tt ⟨(vT hs1),tt ⟨?_,oK⟩⟩⟩⟩
     first | exact (if_pos (by first | assumption | omega)).symm | exact (if_neg (by first | assumption | omega)).symm | (split <;> first | rfl | omega | (simp_all; done) | (simp_all; omega))
   · refine tt ⟨(du w),tt ⟨(mF hs0),tt ⟨(vF hs1),tt ⟨ix,tt ⟨(w6 (by have := aW.1 (show au w = true by simp_all); omega) (by have := aW.1 (show au w = true by simp_all); omega)),tt (cd (fun hc23 => ?_) (fun hc23 => ?_))⟩⟩⟩⟩⟩
     · refine tt ⟨?_,oK⟩
       first | exact (if_pos (by first | assumption | omega)).symm | exact (if_neg (by first | assumption | omega)).symm | (split <;> first | rfl | omega | (simp_all; done) | (simp_all; omega))
     · refine tt ⟨?_,oK⟩
       first | exact (if_pos (by first | assumption | omega)).symm | exact (if_neg (by first | assumption | omega)).symm | (split <;> first | rfl | omega | (simp_all; done) | (simp_all; omega))
 · refine tt ⟨(du w),tt ⟨(mT hs0),tt ⟨?_,oK⟩⟩⟩
   first | exact (if_pos (by first | assumption | omega)).symm | exact (if_neg (by first | assumption | omega)).symm | (split <;> first | rfl | omega | (simp_all; done) | (simp_all; omega))
abbrev Ka (ws xs : List Int) (k w : Int) : Ct := ⟨143,[(.agg [(LI ws),(LI xs),(i6 k),(i6 w)])],false,(i6 (if w < ws.getD 0 0 then 0 else w))⟩
theorem F2 (ws xs : List Int) (k w : Int) (hl : ws.length = 1) (hf : ws.all au = true) : CC (Ka ws xs k w) := by
 have f0 : 0 < ws.length → 1 ≤ ws.getD 0 0∧ws.getD 0 0 ≤ 8 := fun h => aC hf h
 have f1 : 1 < ws.length → 1 ≤ ws.getD 1 0∧ws.getD 1 0 ≤ 8 := fun h => aC hf h
 have f2 : 2 < ws.length → 1 ≤ ws.getD 2 0∧ws.getD 2 0 ≤ 8 := fun h => aC hf h
 refine ai.vc (V := TT 6 (IX 0 ws.length∧TT 2 (CD (w < (ws.getD 0 0)) (TT 2 ((0 : Int) = (if w < ws.getD 0 0 then 0 else w)∧True)) (TT 4 (w = (if w < ws.getD 0 0 then 0 else w)∧True))))) (.b 9 (.e) (.e)) Tryz.func143 rfl rfl rfl (by kernel_rfl) ?_
 refine tt ⟨ix,tt (cd (fun hc9 => ?_) (fun hc9 => ?_))⟩
 · refine tt ⟨?_,oK⟩
   first | exact (if_pos (by first | assumption | omega)).symm | exact (if_neg (by first | assumption | omega)).symm | (split <;> first | rfl | omega | (simp_all; done) | (simp_all; omega))
 · refine tt ⟨?_,oK⟩
   first | exact (if_pos (by first | assumption | omega)).symm | exact (if_neg (by first | assumption | omega)).symm | (split <;> first | rfl | omega | (simp_all; done) | (simp_all; omega))
end Go.Proofs.YtifoecfajmnjjaaGreat
