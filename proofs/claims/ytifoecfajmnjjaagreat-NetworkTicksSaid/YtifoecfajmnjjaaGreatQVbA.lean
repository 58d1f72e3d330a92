/-
  Package bits: widths and values of operations.
-/
import Derived.Test.YtifoecfajmnjjaaGreatQVp
import Derived.Test.YtifoecfajmnjjaaGreatQBitP
namespace Go.Proofs.YtifoecfajmnjjaaGreat
open Go.RowKit
set_option linter.unusedVariables false
set_option linter.unusedSimpArgs false
set_option maxRecDepth 100000
abbrev gf (n : Int) : Ct := ⟨121,[(i6 n)],false,(dB (an n))⟩
theorem dn (n : Int) : CC (gf n) := by
 refine ai.vc (V := TT 1 (CS (n ≥ 1) (TT 2 ((True∧(decide (n ≥ 1)) = true)∧TT 5 ((decide (n ≤ 8)) = (an n)∧True))) (TT 2 ((True∧(decide (n ≥ 1)) = false)∧TT 5 (false = (an n)∧True))))) (.s 1 (n ≥ 1) (.w 1 [(2,.val (dB true))] <| .e) (.w 1 [(2,.val (dB false))] <| .e)) Tryz.func121 rfl rfl rfl (by kernel_rfl) ?_
 refine tt ⟨fun hs0 => ?_,fun hs0 => ?_⟩
 · refine tt ⟨(vT hs0),tt ⟨?_,oK⟩⟩
   unfold an; simp; omega
 · refine tt ⟨(vF hs0),tt ⟨?_,oK⟩⟩
   unfold an; simp; omega
abbrev CR (w : Int) : Ct := ⟨95,[(i6 w)],false,(i6 (ah w))⟩
theorem oq (w : Int) : CC (CR w) := by
 refine ai.vc (V := TT 1 (CS (w < 0) (TT 2 ((True∧(decide (w < 0)) = true)∧TT 5 ((0 : Int) = (ah w)∧True))) (TT 2 ((True∧(decide (w < 0)) = false)∧TT 3 (CD (w > 62) (TT 2 ((0 : Int) = (ah w)∧True)) (TT 1 (SH w∧W6 ((2 ^ w.toNat) - 1)∧TT 2 (((2 ^ w.toNat) - 1) = (ah w)∧True)))))))) (.s 1 (w < 0) (.w 1 [(2,.val (dB true))] <| .e) (.w 1 [(2,.val (dB false))] <| .b 8 (.e) (.w 3 [(1,.val (i6 (2 ^ w.toNat))),(2,.val (i6 ((2 ^ w.toNat) - 1)))] <| .e))) Tryz.func95 rfl rfl rfl (by kernel_rfl) ?_
 refine tt ⟨fun hs0 => ?_,fun hs0 => ?_⟩
 · refine tt ⟨(vT hs0),tt ⟨?_,oK⟩⟩
   unfold ah; first | exact (if_pos (by omega)).symm | exact (if_neg (by omega)).symm
 · refine tt ⟨(vF hs0),tt (cd (fun hc8 => ?_) (fun hc8 => ?_))⟩
   · refine tt ⟨?_,oK⟩
     unfold ah; first | exact (if_pos (by omega)).symm | exact (if_neg (by omega)).symm
   · refine tt ⟨sh,⟨(w6 (by have := kS (n := w.toNat) (by omega); omega) (by have := kS (n := w.toNat) (by omega); omega)),tt ⟨?_,oK⟩⟩⟩
     unfold ah; first | exact (if_pos (by omega)).symm | exact (if_neg (by omega)).symm
abbrev CT (b : Bool) : Ct := ⟨133,[(dB b)],false,(i6 (if b = true then 1 else 0))⟩
theorem CU (b : Bool) : CC (CT b) := by
 refine ai.vc (V := TT 2 (CB (b) (TT 2 ((1 : Int) = (if b = true then 1 else 0)∧True)) (TT 2 ((0 : Int) = (if b = true then 1 else 0)∧True)))) (.b 3 (.e) (.e)) Tryz.func133 rfl rfl rfl (by kernel_rfl) ?_
 refine tt ⟨fun hc3 => ?_,fun hc3 => ?_⟩
 · refine tt ⟨?_,oK⟩
   first | exact (if_pos hc3).symm | exact (if_neg (by rw [hc3]; simp)).symm
 · refine tt ⟨?_,oK⟩
   first | exact (if_pos hc3).symm | exact (if_neg (by rw [hc3]; simp)).symm
abbrev F7 (n : Int) : Ct := ⟨120,[(i6 n)],false,(dB (!(an n)))⟩
theorem CV (n : Int) : CC (F7 n) := by
 refine ai.vc (V := TT 2 (CC (gf n)∧TT 3 ((!(an n)) = (!(an n))∧True))) (.w 1 [(1,(gf n).O)] <| .e) Tryz.func120 rfl rfl rfl (by kernel_rfl) ?_
 exact tt ⟨(dn n),tt ⟨rfl,oK⟩⟩
abbrev IL (ws : List Int) : Ct := ⟨96,[(LI ws),(.fn (.func 120) [] [])],false,(i6 (pX 0 ws))⟩
abbrev ot (ws : List Int) : Lp (Nat) := ga [0,1,7,8] 0 (fun (k : Nat) => ⟨[(0,(LI ws)),(1,(.fn (.func 120) [] [])),(7,(i6 (ws.length : Int))),(8,(i6 (k : Int)))],[]⟩) (fun (k : Nat) => k ≤ ws.length∧pX k (ws.drop k) = pX 0 ws) (fun (k : Nat) => ws.length - k)
theorem CW (ws : List Int) (hl : ws.length ≤ 9223372036854775807) : CC (IL ws) := by
 refine ai.vc (V := TT 4 (GO (ot ws) 0 (∀ k,(ot ws).inv k → TT 1 (CD ((k : Int) < (ws.length : Int)) (TT 5 (IX (k : Int) ws.length∧TT 1 (CC (F7 (ws.getD k 0))∧CB (!(an (ws.getD k 0))) (TT 3 ((k : Int) = (pX 0 ws)∧True)) (W6 ((k + 1 : Nat) : Int)∧TT 1 (AG (ot ws) k (k + 1)))))) (TT 2 ((-1) = (pX 0 ws)∧True)))))) (.l (ot ws) 0 (fun k => .b 9 (.w 4 [(5,(F7 (ws.getD k 0)).O)] <| .b 16 (.e) (.w 6 [(0,.val (i6 ((k + 1 : Nat) : Int)))] <| .e)) (.e))) Tryz.func96 rfl rfl rfl (by kernel_rfl) ?_
 refine tt ⟨rfl,⟨by omega,by rw [List.drop_zero]⟩,?_⟩
 intro k hinv
 obtain ⟨hk,hx⟩ := hinv
 refine tt (cd (fun hc9 => ?_) (fun hc9 => ?_))
 · refine tt ⟨ix,tt ⟨(CV (ws.getD k 0)),⟨fun hc16 => ?_,fun hc16 => ?_⟩⟩⟩
   · refine tt ⟨?_,oK⟩
     rw [← hx,tP (show k < ws.length by omega),if_neg (by simpa using hc16)]
   · refine ⟨w6,tt ⟨(k + 1),rfl,?_,(?_ : ws.length - (k + 1) < ws.length - k)⟩⟩
     · refine ⟨by omega,?_⟩
       rw [← hx,tP (show k < ws.length by omega),if_pos (by simpa using hc16)]
     · omega
 · refine tt ⟨?_,oK⟩
   rw [← hx,List.drop_of_length_le (by omega)]; rfl
abbrev EN (ws : List Int) : Ct := ⟨72,[(LI ws),(.fn (.func 120) [] [])],false,(dB (!(ws.all an)))⟩
theorem iI (ws : List Int) (hl : ws.length ≤ 9223372036854775807) : CC (EN ws) := by
 refine ai.vc (V := TT 3 (CC (IL ws)∧TT 3 ((decide ((pX 0 ws) ≥ 0)) = (!(ws.all an))∧True))) (.w 1 [(2,(IL ws).O)] <| .e) Tryz.func72 rfl rfl rfl (by kernel_rfl) ?_
 refine tt ⟨(CW ws om),tt ⟨?_,oK⟩⟩
 rw [← tO ws 0]
abbrev IM (ws xs : List Int) (k w : Int) : Ct := ⟨122,[(.agg [(LI ws),(LI xs),(i6 k),(i6 w)])],false,(i6 (ws.getD 0 0))⟩
theorem CX (ws xs : List Int) (k w : Int) (hl : ws.length = 1) (hf : ws.all an = true) : CC (IM ws xs k w) := by
 have f0 : 0 < ws.length → 1 ≤ ws.getD 0 0∧ws.getD 0 0 ≤ 8 := fun h => aD hf h
 have f1 : 1 < ws.length → 1 ≤ ws.getD 1 0∧ws.getD 1 0 ≤ 8 := fun h => aD hf h
 have f2 : 2 < ws.length → 1 ≤ ws.getD 2 0∧ws.getD 2 0 ≤ 8 := fun h => aD hf h
 refine ai.vc (V := TT 4 (IX 0 ws.length∧TT 3 ((ws.getD 0 0) = (ws.getD 0 0)∧True))) (.e) Tryz.func122 rfl rfl rfl (by kernel_rfl) ?_
 exact tt ⟨ix,tt ⟨rfl,oK⟩⟩
abbrev F8 (ws xs : List Int) (k w : Int) : Ct := ⟨125,[(.agg [(LI ws),(LI xs),(i6 k),(i6 w)])],false,(i6 (bJ ws))⟩
theorem je (ws xs : List Int) (k w : Int) (hl : ws.length = 2) (hf : ws.all an = true) : CC (F8 ws xs k w) := by
 have f0 : 0 < ws.length → 1 ≤ ws.getD 0 0∧ws.getD 0 0 ≤ 8 := fun h => aD hf h
 have f1 : 1 < ws.length → 1 ≤ ws.getD 1 0∧ws.getD 1 0 ≤ 8 := fun h => aD hf h
 have f2 : 2 < ws.length → 1 ≤ ws.getD 2 0∧ws.getD 2 0 ≤ 8 := fun h => aD hf h
 refine ai.vc (V := TT 4 (IX 0 ws.length∧TT 3 (IX 1 ws.length∧TT 2 (CN ((ws.getD 0 0) = (ws.getD 1 0)) (TT 2 ((0 : Int) = (bJ ws)∧True)) (TT 2 (IX 0 ws.length∧TT 3 ((ws.getD 0 0) = (bJ ws)∧True))))))) (.b 11 (.e) (.e)) Tryz.func125 rfl rfl rfl (by kernel_rfl) ?_
 refine tt ⟨ix,tt ⟨ix,tt (cn (fun hc11 => ?_) (fun hc11 => ?_))⟩⟩
 · refine tt ⟨?_,oK⟩
   first | exact (if_pos (by simpa using hc11)).symm | exact (if_neg (by simpa using hc11)).symm
 · refine tt ⟨ix,tt ⟨?_,oK⟩⟩
   first | exact (if_pos (by simpa using hc11)).symm | exact (if_neg (by simpa using hc11)).symm
abbrev IP (ws xs : List Int) (k w : Int) : Ct := ⟨131,[(.agg [(LI ws),(LI xs),(i6 k),(i6 w)])],false,(i6 (min (bJ ws) 1))⟩
theorem CY (ws xs : List Int) (k w : Int) (hl : ws.length = 2) (hf : ws.all an = true) : CC (IP ws xs k w) := by
 have f0 : 0 < ws.length → 1 ≤ ws.getD 0 0∧ws.getD 0 0 ≤ 8 := fun h => aD hf h
 have f1 : 1 < ws.length → 1 ≤ ws.getD 1 0∧ws.getD 1 0 ≤ 8 := fun h => aD hf h
 have f2 : 2 < ws.length → 1 ≤ ws.getD 2 0∧ws.getD 2 0 ≤ 8 := fun h => aD hf h
 refine ai.vc (V := TT 3 (CC (F8 ws xs k w)∧(True∧(xV (bJ ws) 1) = (min (bJ ws) 1))∧TT 2 ((min (bJ ws) 1) = (min (bJ ws) 1)∧True))) (.w 1 [(1,(F8 ws xs k w).O),(2,.val (i6 (min (bJ ws) 1)))] <| .e) Tryz.func131 rfl rfl rfl (by kernel_rfl) ?_
 exact tt ⟨(je ws xs k w om hf),⟨⟨oK,(by unfold xV; split <;> omega)⟩,tt ⟨rfl,oK⟩⟩⟩
abbrev IQ (ws xs : List Int) (k w : Int) : Ct := ⟨135,[(.agg [(LI ws),(LI xs),(i6 k),(i6 w)])],false,(i6 (if an w = false ∨ k < 0 ∨ ah w < k then 0 else w))⟩
theorem A5 (ws xs : List Int) (k w : Int) (hl : ws.length = 0) (hf : ws.all an = true) : CC (IQ ws xs k w) := by
 have f0 : 0 < ws.length → 1 ≤ ws.getD 0 0∧ws.getD 0 0 ≤ 8 := fun h => aD hf h
 have f1 : 1 < ws.length → 1 ≤ ws.getD 1 0∧ws.getD 1 0 ≤ 8 := fun h => aD hf h
 have f2 : 2 < ws.length → 1 ≤ ws.getD 2 0∧ws.getD 2 0 ≤ 8 := fun h => aD hf h
 refine ai.vc (V := TT 2 (CS ((an w) = true) (CS (k < 0) (TT 2 (CC (gf w)∧TT 1 ((True∧(!(an w)) = false)∧TT 4 ((True∧(decide (k < 0)) = true)∧TT 3 ((((0 : Int) = (if an w = false ∨ k < 0 ∨ ah w < k then 0 else w)))∧True))))) (TT 2 (CC (gf w)∧TT 1 ((True∧(!(an w)) = false)∧TT 4 ((True∧(decide (k < 0)) = false)∧TT 4 (CC (CR w)∧TT 2 (CD (k > (ah w)) (TT 2 ((((0 : Int) = (if an w = false ∨ k < 0 ∨ ah w < k then 0 else w)))∧True)) (TT 4 (((w = (if an w = false ∨ k < 0 ∨ ah w < k then 0 else w)))∧True))))))))) (TT 2 (CC (gf w)∧TT 1 ((True∧(!(an w)) = true)∧TT 5 ((((0 : Int) = (if an w = false ∨ k < 0 ∨ ah w < k then 0 else w)))∧True)))))) (.s 1 ((an w) = true) (.s 1 (k < 0) (.w 1 [(2,(gf w).O),(4,.val (dB false)),(9,.val (dB true))] <| .e) (.w 1 [(2,(gf w).O),(4,.val (dB false)),(9,.val (dB false)),(14,(CR w).O)] <| .b 19 (.e) (.e))) (.w 1 [(2,(gf w).O),(4,.val (dB true))] <| .e)) Tryz.func135 rfl rfl rfl (by kernel_rfl) ?_
 refine tt ⟨fun hs0 => ?_,fun hs0 => ?_⟩
 · refine ⟨fun hs1 => ?_,fun hs1 => ?_⟩
   · refine tt ⟨(dn w),tt ⟨(mF hs0),tt ⟨(vT hs1),tt ⟨?_,oK⟩⟩⟩⟩
     first | exact (if_pos (by first | assumption | omega)).symm | exact (if_neg (by first | assumption | omega)).symm | (split <;> first | rfl | omega | (simp_all; done) | (simp_all; omega))
   · refine tt ⟨(dn w),tt ⟨(mF hs0),tt ⟨(vF hs1),tt ⟨(oq w),tt (cd (fun hc19 => ?_) (fun hc19 => ?_))⟩⟩⟩⟩
     · refine tt ⟨?_,oK⟩
       first | exact (if_pos (by first | assumption | omega)).symm | exact (if_neg (by first | assumption | omega)).symm | (split <;> first | rfl | omega | (simp_all; done) | (simp_all; omega))
     · refine tt ⟨?_,oK⟩
       first | exact (if_pos (by first | assumption | omega)).symm | exact (if_neg (by first | assumption | omega)).symm | (split <;> first | rfl | omega | (simp_all; done) | (simp_all; omega))
 · refine tt ⟨(dn w),tt ⟨(mT hs0),tt ⟨?_,oK⟩⟩⟩
   first | exact (if_pos (by first | assumption | omega)).symm | exact (if_neg (by first | assumption | omega)).symm | (split <;> first | rfl | omega | (simp_all; done) | (simp_all; omega))
abbrev IR (ws xs : List Int) (k w : Int) : Ct := ⟨137,[(.agg [(LI ws),(LI xs),(i6 k),(i6 w)])],false,(i6 (if ws.getD 0 0 ≠ 1 ∨ ws.getD 1 0 ≠ ws.getD 2 0 then 0 else ws.getD 1 0))⟩
theorem EO (ws xs : List Int) (k w : Int) (hl : ws.length = 3) (hf : ws.all an = true) : CC (IR ws xs k w) := by
 have f0 : 0 < ws.length → 1 ≤ ws.getD 0 0∧ws.getD 0 0 ≤ 8 := fun h => aD hf h
 have f1 : 1 < ws.length → 1 ≤ ws.getD 1 0∧ws.getD 1 0 ≤ 8 := fun h => aD hf h
 have f2 : 2 < ws.length → 1 ≤ ws.getD 2 0∧ws.getD 2 0 ≤ 8 := fun h => aD hf h
 refine ai.vc (V := TT 2 (CS ((ws.getD 0 0) = 1) (TT 2 (IX 0 ws.length∧TT 2 ((True∧(!decide ((ws.getD 0 0) = 1)) = false)∧TT 2 (IX 1 ws.length∧TT 3 (IX 2 ws.length∧TT 3 (CN ((ws.getD 1 0) = (ws.getD 2 0)) (TT 2 ((((0 : Int) = (if ws.getD 0 0 ≠ 1 ∨ ws.getD 1 0 ≠ ws.getD 2 0 then 0 else ws.getD 1 0)))∧True)) (TT 2 (IX 1 ws.length∧TT 3 ((((ws.getD 1 0) = (if ws.getD 0 0 ≠ 1 ∨ ws.getD 1 0 ≠ ws.getD 2 0 then 0 else ws.getD 1 0)))∧True))))))))) (TT 2 (IX 0 ws.length∧TT 2 ((True∧(!decide ((ws.getD 0 0) = 1)) = true)∧TT 3 ((((0 : Int) = (if ws.getD 0 0 ≠ 1 ∨ ws.getD 1 0 ≠ ws.getD 2 0 then 0 else ws.getD 1 0)))∧True)))))) (.s 1 ((ws.getD 0 0) = 1) (.w 1 [(5,.val (dB false))] <| .b 18 (.e) (.e)) (.w 1 [(5,.val (dB true))] <| .e)) Tryz.func137 rfl rfl rfl (by kernel_rfl) ?_
 refine tt ⟨fun hs0 => ?_,fun hs0 => ?_⟩
 · refine tt ⟨ix,tt ⟨(nF hs0),tt ⟨ix,tt ⟨ix,tt (cn (fun hc18 => ?_) (fun hc18 => ?_))⟩⟩⟩⟩
   · refine tt ⟨?_,oK⟩
     first | exact (if_pos (by first | assumption | omega)).symm | exact (if_neg (by first | assumption | omega)).symm | (split <;> first | rfl | omega | (simp_all; done) | (simp_all; omega))
   · refine tt ⟨ix,tt ⟨?_,oK⟩⟩
     first | exact (if_pos (by first | assumption | omega)).symm | exact (if_neg (by first | assumption | omega)).symm | (split <;> first | rfl | omega | (simp_all; done) | (simp_all; omega))
 · refine tt ⟨ix,tt ⟨(nT hs0),tt ⟨?_,oK⟩⟩⟩
   first | exact (if_pos (by first | assumption | omega)).symm | exact (if_neg (by first | assumption | omega)).symm | (split <;> first | rfl | omega | (simp_all; done) | (simp_all; omega))
abbrev IT (ws xs : List Int) (k w : Int) : Ct := ⟨139,[(.agg [(LI ws),(LI xs),(i6 k),(i6 w)])],false,(i6 (ws.getD 0 0 + ws.getD 1 0))⟩
theorem EP (ws xs : List Int) (k w : Int) (hl : ws.length = 2) (hf : ws.all an = true) : CC (IT ws xs k w) := by
 have f0 : 0 < ws.length → 1 ≤ ws.getD 0 0∧ws.getD 0 0 ≤ 8 := fun h => aD hf h
 have f1 : 1 < ws.length → 1 ≤ ws.getD 1 0∧ws.getD 1 0 ≤ 8 := fun h => aD hf h
 have f2 : 2 < ws.length → 1 ≤ ws.getD 2 0∧ws.getD 2 0 ≤ 8 := fun h => aD hf h
 refine ai.vc (V := TT 4 (IX 0 ws.length∧TT 3 (IX 1 ws.length∧TT 1 (W6 ((ws.getD 0 0) + (ws.getD 1 0))∧TT 2 (((ws.getD 0 0) + (ws.getD 1 0)) = (ws.getD 0 0 + ws.getD 1 0)∧True))))) (.w 1 [(8,.val (i6 ((ws.getD 0 0) + (ws.getD 1 0))))] <| .e) Tryz.func139 rfl rfl rfl (by kernel_rfl) ?_
 refine tt ⟨ix,tt ⟨ix,tt ⟨w6,tt ⟨?_,oK⟩⟩⟩⟩
 first | rfl | omega | (simp; first | done | omega)
abbrev IU (ws xs : List Int) (k w : Int) : Ct := ⟨141,[(.agg [(LI ws),(LI xs),(i6 k),(i6 w)])],false,(i6 (if an w = false ∨ k < 0 ∨ ws.getD 0 0 - w < k then 0 else w))⟩
theorem A6 (ws xs : List Int) (k w : Int) (hl : ws.length = 1) (hf : ws.all an = true) : CC (IU ws xs k w) := by
 have f0 : 0 < ws.length → 1 ≤ ws.getD 0 0∧ws.getD 0 0 ≤ 8 := fun h => aD hf h
 have f1 : 1 < ws.length → 1 ≤ ws.getD 1 0∧ws.getD 1 0 ≤ 8 := fun h => aD hf h
 have f2 : 2 < ws.length → 1 ≤ ws.getD 2 0∧ws.getD 2 0 ≤ 8 := fun h => aD hf h
 refine ai.vc (V := TT 2 (CS ((an w) = true) (CS (k < 0) (TT 2 (CC (gf w)∧TT 1 ((True∧(!(an w)) = false)∧TT 4 ((True∧(decide (k < 0)) = true)∧TT 3 ((((0 : Int) = (if an w = false ∨ k < 0 ∨ ws.getD 0 0 - w < k then 0 else w)))∧True))))) (TT 2 (CC (gf w)∧TT 1 ((True∧(!(an w)) = false)∧TT 4 ((True∧(decide (k < 0)) = false)∧TT 4 (IX 0 ws.length∧TT 3 (W6 ((ws.getD 0 0) - w)∧TT 2 (CD (k > ((ws.getD 0 0) - w)) (TT 2 ((((0 : Int) = (if an w = false ∨ k < 0 ∨ ws.getD 0 0 - w < k then 0 else w)))∧True)) (TT 4 (((w = (if an w = false ∨ k < 0 ∨ ws.getD 0 0 - w < k then 0 else w)))∧True)))))))))) (TT 2 (CC (gf w)∧TT 1 ((True∧(!(an w)) = true)∧TT 5 ((((0 : Int) = (if an w = false ∨ k < 0 ∨ ws.getD 0 0 - w < k then 0 else w)))∧True)))))) (.s 1 ((an w) = true) (.s 1 (k < 0) (.w 1 [(2,(gf w).O),(4,.val (dB false)),(9,.val (dB true))] <| .e) (.w 1 [(2,(gf w).O),(4,.val (dB false)),(9,.val (dB false)),(18,.val (i6 ((ws.getD 0 0) - w)))] <| .b 23 (.e) (.e))) (.w 1 [(2,(gf w).O),(4,.val (dB true))] <| .e)) Tryz.func141 rfl rfl rfl (by kernel_rfl) ?_
 refine tt ⟨fun hs0 => ?_,fun hs0 => ?_⟩
 · refine ⟨fun hs1 => ?_,fun hs1 => ?_⟩
   · refine tt ⟨(dn w),tt ⟨(mF hs0),tt ⟨(vT hs1),tt ⟨?_,oK⟩⟩⟩⟩
     first | exact (if_pos (by first | assumption | omega)).symm | exact (if_neg (by first | assumption | omega)).symm | (split <;> first | rfl | omega | (simp_all; done) | (simp_all; omega))
   · refine tt ⟨(dn w),tt ⟨(mF hs0),tt ⟨(vF hs1),tt ⟨ix,tt ⟨(w6 (by have := aU.1 (show an w = true by simp_all); omega) (by have := aU.1 (show an w = true by simp_all); omega)),tt (cd (fun hc23 => ?_) (fun hc23 => ?_))⟩⟩⟩⟩⟩
     · refine tt ⟨?_,oK⟩
       first | exact (if_pos (by first | assumption | omega)).symm | exact (if_neg (by first | assumption | omega)).symm | (split <;> first | rfl | omega | (simp_all; done) | (simp_all; omega))
     · refine tt ⟨?_,oK⟩
       first | exact (if_pos (by first | assumption | omega)).symm | exact (if_neg (by first | assumption | omega)).symm | (split <;> first | rfl | omega | (simp_all; done) | (simp_all; omega))
 · refine tt ⟨(dn w),tt ⟨(mT hs0),tt ⟨?_,oK⟩⟩⟩
   first | exact (if_pos (by first | assumption | omega)).symm | exact (if_neg (by first | assumption | omega)).symm | (split <;> first | rfl | omega | (simp_all; done) | (simp_all; omega))
abbrev IV (ws xs : List Int) (k w : Int) : Ct := ⟨143,[(.agg [(LI ws),(LI xs),(i6 k),(i6 w)])],false,(i6 (if w < ws.getD 0 0 then 0 else w))⟩
theorem ER (ws xs : List Int) (k w : Int) (hl : ws.length = 1) (hf : ws.all an = true) : CC (IV ws xs k w) := by
 have f0 : 0 < ws.length → 1 ≤ ws.getD 0 0∧ws.getD 0 0 ≤ 8 := fun h => aD hf h
 have f1 : 1 < ws.length → 1 ≤ ws.getD 1 0∧ws.getD 1 0 ≤ 8 := fun h => aD hf h
 have f2 : 2 < ws.length → 1 ≤ ws.getD 2 0∧ws.getD 2 0 ≤ 8 := fun h => aD hf h
 refine ai.vc (V := TT 6 (IX 0 ws.length∧TT 2 (CD (w < (ws.getD 0 0)) (TT 2 ((0 : Int) = (if w < ws.getD 0 0 then 0 else w)∧True)) (TT 4 (w = (if w < ws.getD 0 0 then 0 else w)∧True))))) (.b 9 (.e) (.e)) Tryz.func143 rfl rfl rfl (by kernel_rfl) ?_
 refine tt ⟨ix,tt (cd (fun hc9 => ?_) (fun hc9 => ?_))⟩
 · refine tt ⟨?_,oK⟩
   first | exact (if_pos (by first | assumption | omega)).symm | exact (if_neg (by first | assumption | omega)).symm | (split <;> first | rfl | omega | (simp_all; done) | (simp_all; omega))
 · refine tt ⟨?_,oK⟩
   first | exact (if_pos (by first | assumption | omega)).symm | exact (if_neg (by first | assumption | omega)).symm | (split <;> first | rfl | omega | (simp_all; done) | (simp_all; omega))
end Go.Proofs.YtifoecfajmnjjaaGreat
