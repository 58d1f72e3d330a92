/-
  Package bits: widths and values of operations.
-/
import Derived.Test.YtaghhicmnalmmaaQVp
import Derived.Test.YtaghhicmnalmmaaQBitP
namespace Go.Proofs.Ytaghhicmnalmmaa
open Go.RowKit
set_option linter.unusedVariables false
set_option linter.unusedSimpArgs false
set_option maxRecDepth 100000
abbrev it (n : Int) : Ct := ⟨37,[(i6 n)],false,(dB (ao n))⟩
theorem bv (n : Int) : CC (it n) := by
 refine ai.vc (V := TT 1 (CS (n ≥ 1) (TT 2 ((True∧(decide (n ≥ 1)) = true)∧TT 5 ((decide (n ≤ 8)) = (ao n)∧True))) (TT 2 ((True∧(decide (n ≥ 1)) = false)∧TT 5 (false = (ao n)∧True))))) (.s 1 (n ≥ 1) (.w 1 [(2,.val (dB true))] <| .e) (.w 1 [(2,.val (dB false))] <| .e)) Try.func37 rfl rfl rfl (by kernel_rfl) ?_
 refine tt ⟨fun hs0 => ?_,fun hs0 => ?_⟩
 · refine tt ⟨(vT hs0),tt ⟨?_,oK⟩⟩
   unfold ao; simp; omega
 · refine tt ⟨(vF hs0),tt ⟨?_,oK⟩⟩
   unfold ao; simp; omega
abbrev gf (w : Int) : Ct := ⟨14,[(i6 w)],false,(i6 (aa w))⟩
theorem bw (w : Int) : CC (gf w) := by
 refine ai.vc (V := TT 1 (CS (w < 0) (TT 2 ((True∧(decide (w < 0)) = true)∧TT 5 ((0 : Int) = (aa w)∧True))) (TT 2 ((True∧(decide (w < 0)) = false)∧TT 3 (CD (w > 62) (TT 2 ((0 : Int) = (aa w)∧True)) (TT 1 (SH w∧W6 ((2 ^ w.toNat) - 1)∧TT 2 (((2 ^ w.toNat) - 1) = (aa w)∧True)))))))) (.s 1 (w < 0) (.w 1 [(2,.val (dB true))] <| .e) (.w 1 [(2,.val (dB false))] <| .b 8 (.e) (.w 3 [(1,.val (i6 (2 ^ w.toNat))),(2,.val (i6 ((2 ^ w.toNat) - 1)))] <| .e))) Try.func14 rfl rfl rfl (by kernel_rfl) ?_
 refine tt ⟨fun hs0 => ?_,fun hs0 => ?_⟩
 · refine tt ⟨(vT hs0),tt ⟨?_,oK⟩⟩
   unfold aa; first | exact (if_pos (by omega)).symm | exact (if_neg (by omega)).symm
 · refine tt ⟨(vF hs0),tt (cd (fun hc8 => ?_) (fun hc8 => ?_))⟩
   · refine tt ⟨?_,oK⟩
     unfold aa; first | exact (if_pos (by omega)).symm | exact (if_neg (by omega)).symm
   · refine tt ⟨sh,⟨(w6 (by have := nA (n := w.toNat) (by omega); omega) (by have := nA (n := w.toNat) (by omega); omega)),tt ⟨?_,oK⟩⟩⟩
     unfold aa; first | exact (if_pos (by omega)).symm | exact (if_neg (by omega)).symm
abbrev r8 (b : Bool) : Ct := ⟨32,[(dB b)],false,(i6 (if b = true then 1 else 0))⟩
theorem mU (b : Bool) : CC (r8 b) := by
 refine ai.vc (V := TT 2 (CB (b) (TT 2 ((1 : Int) = (if b = true then 1 else 0)∧True)) (TT 2 ((0 : Int) = (if b = true then 1 else 0)∧True)))) (.b 3 (.e) (.e)) Try.func32 rfl rfl rfl (by kernel_rfl) ?_
 refine tt ⟨fun hc3 => ?_,fun hc3 => ?_⟩
 · refine tt ⟨?_,oK⟩
   first | exact (if_pos hc3).symm | exact (if_neg (by rw [hc3]; simp)).symm
 · refine tt ⟨?_,oK⟩
   first | exact (if_pos hc3).symm | exact (if_neg (by rw [hc3]; simp)).symm
abbrev sy (n : Int) : Ct := ⟨36,[(i6 n)],false,(dB (!(ao n)))⟩
theorem pt (n : Int) : CC (sy n) := by
 refine ai.vc (V := TT 2 (CC (it n)∧TT 3 ((!(ao n)) = (!(ao n))∧True))) (.w 1 [(1,(it n).O)] <| .e) Try.func36 rfl rfl rfl (by kernel_rfl) ?_
 exact tt ⟨(bv n),tt ⟨rfl,oK⟩⟩
abbrev sA (ws : List Int) : Ct := ⟨62,[(LI ws),(.fn (.func 36) [] [])],false,(i6 (gW 0 ws))⟩
abbrev gg (ws : List Int) : Lp (Nat) := sG [0,1,7,8] 0 (fun (k : Nat) => ⟨[(0,(LI ws)),(1,(.fn (.func 36) [] [])),(7,(i6 (ws.length : Int))),(8,(i6 (k : Int)))],[]⟩) (fun (k : Nat) => k ≤ ws.length∧gW k (ws.drop k) = gW 0 ws) (fun (k : Nat) => ws.length - k)
theorem pu (ws : List Int) (hl : ws.length ≤ 9223372036854775807) : CC (sA ws) := by
 refine ai.vc (V := TT 4 (GO (gg ws) 0 (∀ k,(gg ws).inv k → TT 1 (CD ((k : Int) < (ws.length : Int)) (TT 5 (IX (k : Int) ws.length∧TT 1 (CC (sy (ws.getD k 0))∧CB (!(ao (ws.getD k 0))) (TT 3 ((k : Int) = (gW 0 ws)∧True)) (W6 ((k + 1 : Nat) : Int)∧TT 1 (AG (gg ws) k (k + 1)))))) (TT 2 ((-1) = (gW 0 ws)∧True)))))) (.l (gg ws) 0 (fun k => .b 9 (.w 4 [(5,(sy (ws.getD k 0)).O)] <| .b 16 (.e) (.w 6 [(0,.val (i6 ((k + 1 : Nat) : Int)))] <| .e)) (.e))) Try.func62 rfl rfl rfl (by kernel_rfl) ?_
 refine tt ⟨rfl,⟨by omega,by rw [List.drop_zero]⟩,?_⟩
 intro k hinv
 obtain ⟨hk,hx⟩ := hinv
 refine tt (cd (fun hc9 => ?_) (fun hc9 => ?_))
 · refine tt ⟨ix,tt ⟨(pt (ws.getD k 0)),⟨fun hc16 => ?_,fun hc16 => ?_⟩⟩⟩
   · refine tt ⟨?_,oK⟩
     rw [← hx,kq (show k < ws.length by omega),if_neg (by simpa using hc16)]
   · refine ⟨w6,tt ⟨(k + 1),rfl,?_,(?_ : ws.length - (k + 1) < ws.length - k)⟩⟩
     · refine ⟨by omega,?_⟩
       rw [← hx,kq (show k < ws.length by omega),if_pos (by simpa using hc16)]
     · omega
 · refine tt ⟨?_,oK⟩
   rw [← hx,List.drop_of_length_le (by omega)]; rfl
abbrev qf (ws : List Int) : Ct := ⟨35,[(LI ws),(.fn (.func 36) [] [])],false,(dB (!(ws.all ao)))⟩
theorem dm (ws : List Int) (hl : ws.length ≤ 9223372036854775807) : CC (qf ws) := by
 refine ai.vc (V := TT 3 (CC (sA ws)∧TT 3 ((decide ((gW 0 ws) ≥ 0)) = (!(ws.all ao))∧True))) (.w 1 [(2,(sA ws).O)] <| .e) Try.func35 rfl rfl rfl (by kernel_rfl) ?_
 refine tt ⟨(pu ws om),tt ⟨?_,oK⟩⟩
 rw [← ko ws 0]
abbrev sJ (ws xs : List Int) (k w : Int) : Ct := ⟨40,[(.agg [(LI ws),(LI xs),(i6 k),(i6 w)])],false,(i6 (ws.getD 0 0))⟩
theorem pv (ws xs : List Int) (k w : Int) (hl : ws.length = 1) (hf : ws.all ao = true) : CC (sJ ws xs k w) := by
 have f0 : 0 < ws.length → 1 ≤ ws.getD 0 0∧ws.getD 0 0 ≤ 8 := fun h => aj hf h
 have f1 : 1 < ws.length → 1 ≤ ws.getD 1 0∧ws.getD 1 0 ≤ 8 := fun h => aj hf h
 have f2 : 2 < ws.length → 1 ≤ ws.getD 2 0∧ws.getD 2 0 ≤ 8 := fun h => aj hf h
 refine ai.vc (V := TT 4 (IX 0 ws.length∧TT 3 ((ws.getD 0 0) = (ws.getD 0 0)∧True))) (.e) Try.func40 rfl rfl rfl (by kernel_rfl) ?_
 exact tt ⟨ix,tt ⟨rfl,oK⟩⟩
abbrev sB (ws xs : List Int) (k w : Int) : Ct := ⟨43,[(.agg [(LI ws),(LI xs),(i6 k),(i6 w)])],false,(i6 (bt ws))⟩
theorem dR (ws xs : List Int) (k w : Int) (hl : ws.length = 2) (hf : ws.all ao = true) : CC (sB ws xs k w) := by
 have f0 : 0 < ws.length → 1 ≤ ws.getD 0 0∧ws.getD 0 0 ≤ 8 := fun h => aj hf h
 have f1 : 1 < ws.length → 1 ≤ ws.getD 1 0∧ws.getD 1 0 ≤ 8 := fun h => aj hf h
 have f2 : 2 < ws.length → 1 ≤ ws.getD 2 0∧ws.getD 2 0 ≤ 8 := fun h => aj hf h
 refine ai.vc (V := TT 4 (IX 0 ws.length∧TT 3 (IX 1 ws.length∧TT 2 (CN ((ws.getD 0 0) = (ws.getD 1 0)) (TT 2 ((0 : Int) = (bt ws)∧True)) (TT 2 (IX 0 ws.length∧TT 3 ((ws.getD 0 0) = (bt ws)∧True))))))) (.b 11 (.e) (.e)) Try.func43 rfl rfl rfl (by kernel_rfl) ?_
 refine tt ⟨ix,tt ⟨ix,tt (cn (fun hc11 => ?_) (fun hc11 => ?_))⟩⟩
 · refine tt ⟨?_,oK⟩
   first | exact (if_pos (by simpa using hc11)).symm | exact (if_neg (by simpa using hc11)).symm
 · refine tt ⟨ix,tt ⟨?_,oK⟩⟩
   first | exact (if_pos (by simpa using hc11)).symm | exact (if_neg (by simpa using hc11)).symm
abbrev sK (ws xs : List Int) (k w : Int) : Ct := ⟨49,[(.agg [(LI ws),(LI xs),(i6 k),(i6 w)])],false,(i6 (min (bt ws) 1))⟩
theorem pw (ws xs : List Int) (k w : Int) (hl : ws.length = 2) (hf : ws.all ao = true) : CC (sK ws xs k w) := by
 have f0 : 0 < ws.length → 1 ≤ ws.getD 0 0∧ws.getD 0 0 ≤ 8 := fun h => aj hf h
 have f1 : 1 < ws.length → 1 ≤ ws.getD 1 0∧ws.getD 1 0 ≤ 8 := fun h => aj hf h
 have f2 : 2 < ws.length → 1 ≤ ws.getD 2 0∧ws.getD 2 0 ≤ 8 := fun h => aj hf h
 refine ai.vc (V := TT 3 (CC (sB ws xs k w)∧(True∧(nQ (bt ws) 1) = (min (bt ws) 1))∧TT 2 ((min (bt ws) 1) = (min (bt ws) 1)∧True))) (.w 1 [(1,(sB ws xs k w).O),(2,.val (i6 (min (bt ws) 1)))] <| .e) Try.func49 rfl rfl rfl (by kernel_rfl) ?_
 exact tt ⟨(dR ws xs k w om hf),⟨⟨oK,(by unfold nQ; split <;> omega)⟩,tt ⟨rfl,oK⟩⟩⟩
abbrev sL (ws xs : List Int) (k w : Int) : Ct := ⟨52,[(.agg [(LI ws),(LI xs),(i6 k),(i6 w)])],false,(i6 (if ao w = false ∨ k < 0 ∨ aa w < k then 0 else w))⟩
theorem ou (ws xs : List Int) (k w : Int) (hl : ws.length = 0) (hf : ws.all ao = true) : CC (sL ws xs k w) := by
 have f0 : 0 < ws.length → 1 ≤ ws.getD 0 0∧ws.getD 0 0 ≤ 8 := fun h => aj hf h
 have f1 : 1 < ws.length → 1 ≤ ws.getD 1 0∧ws.getD 1 0 ≤ 8 := fun h => aj hf h
 have f2 : 2 < ws.length → 1 ≤ ws.getD 2 0∧ws.getD 2 0 ≤ 8 := fun h => aj hf h
 refine ai.vc (V := TT 2 (CS ((ao w) = true) (CS (k < 0) (TT 2 (CC (it w)∧TT 1 ((True∧(!(ao w)) = false)∧TT 4 ((True∧(decide (k < 0)) = true)∧TT 3 ((((0 : Int) = (if ao w = false ∨ k < 0 ∨ aa w < k then 0 else w)))∧True))))) (TT 2 (CC (it w)∧TT 1 ((True∧(!(ao w)) = false)∧TT 4 ((True∧(decide (k < 0)) = false)∧TT 4 (CC (gf w)∧TT 2 (CD (k > (aa w)) (TT 2 ((((0 : Int) = (if ao w = false ∨ k < 0 ∨ aa w < k then 0 else w)))∧True)) (TT 4 (((w = (if ao w = false ∨ k < 0 ∨ aa w < k then 0 else w)))∧True))))))))) (TT 2 (CC (it w)∧TT 1 ((True∧(!(ao w)) = true)∧TT 5 ((((0 : Int) = (if ao w = false ∨ k < 0 ∨ aa w < k then 0 else w)))∧True)))))) (.s 1 ((ao w) = true) (.s 1 (k < 0) (.w 1 [(2,(it w).O),(4,.val (dB false)),(9,.val (dB true))] <| .e) (.w 1 [(2,(it w).O),(4,.val (dB false)),(9,.val (dB false)),(14,(gf w).O)] <| .b 19 (.e) (.e))) (.w 1 [(2,(it w).O),(4,.val (dB true))] <| .e)) Try.func52 rfl rfl rfl (by kernel_rfl) ?_
 refine tt ⟨fun hs0 => ?_,fun hs0 => ?_⟩
 · refine ⟨fun hs1 => ?_,fun hs1 => ?_⟩
   · refine tt ⟨(bv w),tt ⟨(mF hs0),tt ⟨(vT hs1),tt ⟨?_,oK⟩⟩⟩⟩
     first | exact (if_pos (by first | assumption | omega)).symm | exact (if_neg (by first | assumption | omega)).symm | (split <;> first | rfl | omega | (simp_all; done) | (simp_all; omega))
   · refine tt ⟨(bv w),tt ⟨(mF hs0),tt ⟨(vF hs1),tt ⟨(bw w),tt (cd (fun hc19 => ?_) (fun hc19 => ?_))⟩⟩⟩⟩
     · refine tt ⟨?_,oK⟩
       first | exact (if_pos (by first | assumption | omega)).symm | exact (if_neg (by first | assumption | omega)).symm | (split <;> first | rfl | omega | (simp_all; done) | (simp_all; omega))
     · refine tt ⟨?_,oK⟩
       first | exact (if_pos (by first | assumption | omega)).symm | exact (if_neg (by first | assumption | omega)).symm | (split <;> first | rfl | omega | (simp_all; done) | (simp_all; omega))
 · refine tt ⟨(bv w),tt ⟨(mT hs0),tt ⟨?_,oK⟩⟩⟩
   first | exact (if_pos (by first | assumption | omega)).symm | exact (if_neg (by first | assumption | omega)).symm | (split <;> first | rfl | omega | (simp_all; done) | (simp_all; omega))
abbrev sM (ws xs : List Int) (k w : Int) : Ct := ⟨54,[(.agg [(LI ws),(LI xs),(i6 k),(i6 w)])],false,(i6 (if ws.getD 0 0 ≠ 1 ∨ ws.getD 1 0 ≠ ws.getD 2 0 then 0 else ws.getD 1 0))⟩
theorem qg (ws xs : List Int) (k w : Int) (hl : ws.length = 3) (hf : ws.all ao = true) : CC (sM ws xs k w) := by
 have f0 : 0 < ws.length → 1 ≤ ws.getD 0 0∧ws.getD 0 0 ≤ 8 := fun h => aj hf h
 have f1 : 1 < ws.length → 1 ≤ ws.getD 1 0∧ws.getD 1 0 ≤ 8 := fun h => aj hf h
 have f2 : 2 < ws.length → 1 ≤ ws.getD 2 0∧ws.getD 2 0 ≤ 8 := fun h => aj hf h
 refine ai.vc (V := TT 2 (CS ((ws.getD 0 0) = 1) (TT 2 (IX 0 ws.length∧TT 2 ((True∧(!decide ((ws.getD 0 0) = 1)) = false)∧TT 2 (IX 1 ws.length∧TT 3 (IX 2 ws.length∧TT 3 (CN ((ws.getD 1 0) = (ws.getD 2 0)) (TT 2 ((((0 : Int) = (if ws.getD 0 0 ≠ 1 ∨ ws.getD 1 0 ≠ ws.getD 2 0 then 0 else ws.getD 1 0)))∧True)) (TT 2 (IX 1 ws.length∧TT 3 ((((ws.getD 1 0) = (if ws.getD 0 0 ≠ 1 ∨ ws.getD 1 0 ≠ ws.getD 2 0 then 0 else ws.getD 1 0)))∧True))))))))) (TT 2 (IX 0 ws.length∧TT 2 ((True∧(!decide ((ws.getD 0 0) = 1)) = true)∧TT 3 ((((0 : Int) = (if ws.getD 0 0 ≠ 1 ∨ ws.getD 1 0 ≠ ws.getD 2 0 then 0 else ws.getD 1 0)))∧True)))))) (.s 1 ((ws.getD 0 0) = 1) (.w 1 [(5,.val (dB false))] <| .b 18 (.e) (.e)) (.w 1 [(5,.val (dB true))] <| .e)) Try.func54 rfl rfl rfl (by kernel_rfl) ?_
 refine tt ⟨fun hs0 => ?_,fun hs0 => ?_⟩
 · refine tt ⟨ix,tt ⟨(nF hs0),tt ⟨ix,tt ⟨ix,tt (cn (fun hc18 => ?_) (fun hc18 => ?_))⟩⟩⟩⟩
   · refine tt ⟨?_,oK⟩
     first | exact (if_pos (by first | assumption | omega)).symm | exact (if_neg (by first | assumption | omega)).symm | (split <;> first | rfl | omega | (simp_all; done) | (simp_all; omega))
   · refine tt ⟨ix,tt ⟨?_,oK⟩⟩
     first | exact (if_pos (by first | assumption | omega)).symm | exact (if_neg (by first | assumption | omega)).symm | (split <;> first | rfl | omega | (simp_all; done) | (simp_all; omega))
 · refine tt ⟨ix,tt ⟨(nT hs0),tt ⟨?_,oK⟩⟩⟩
   first | exact (if_pos (by first | assumption | omega)).symm | exact (if_neg (by first | assumption | omega)).symm | (split <;> first | rfl | omega | (simp_all; done) | (simp_all; omega))
abbrev sN (ws xs : List Int) (k w : Int) : Ct := ⟨56,[(.agg [(LI ws),(LI xs),(i6 k),(i6 w)])],false,(i6 (ws.getD 0 0 + ws.getD 1 0))⟩
theorem qh (ws xs : List Int) (k w : Int) (hl : ws.length = 2) (hf : ws.all ao = true) : CC (sN ws xs k w) := by
 have f0 : 0 < ws.length → 1 ≤ ws.getD 0 0∧ws.getD 0 0 ≤ 8 := fun h => aj hf h
 have f1 : 1 < ws.length → 1 ≤ ws.getD 1 0∧ws.getD 1 0 ≤ 8 := fun h => aj hf h
 have f2 : 2 < ws.length → 1 ≤ ws.getD 2 0∧ws.getD 2 0 ≤ 8 := fun h => aj hf h
 refine ai.vc (V := TT 4 (IX 0 ws.length∧TT 3 (IX 1 ws.length∧TT 1 (W6 ((ws.getD 0 0) + (ws.getD 1 0))∧TT 2 (((ws.getD 0 0) + (ws.getD 1 0)) = (ws.getD 0 0 + ws.getD 1 0)∧True))))) (.w 1 [(8,.val (i6 ((ws.getD 0 0) + (ws.getD 1 0))))] <| .e) Try.func56 rfl rfl rfl (by kernel_rfl) ?_
 refine tt ⟨ix,tt ⟨ix,tt ⟨w6,tt ⟨?_,oK⟩⟩⟩⟩
 first | rfl | omega | (simp; first | done | omega)
abbrev sO (ws xs : List Int) (k w : Int) : Ct := ⟨58,[(.agg [(LI ws),(LI xs),(i6 k),(i6 w)])],false,(i6 (if ao w = false ∨ k < 0 ∨ ws.getD 0 0 - w < k then 0 else w))⟩
theorem ow (ws xs : List Int) (k w : Int) (hl : ws.length = 1) (hf : ws.all ao = true) : CC (sO ws xs k w) := by
 have f0 : 0 < ws.length → 1 ≤ ws.getD 0 0∧ws.getD 0 0 ≤ 8 := fun h => aj hf h
 have f1 : 1 < ws.length → 1 ≤ ws.getD 1 0∧ws.getD 1 0 ≤ 8 := fun h => aj hf h
 have f2 : 2 < ws.length → 1 ≤ ws.getD 2 0∧ws.getD 2 0 ≤ 8 := fun h => aj hf h
 refine ai.vc (V := TT 2 (CS ((ao w) = true) (CS (k < 0) (TT 2 (CC (it w)∧TT 1 ((True∧(!(ao w)) = false)∧TT 4 ((True∧(decide (k < 0)) = true)∧TT 3 ((((0 : Int) = (if ao w = false ∨ k < 0 ∨ ws.getD 0 0 - w < k then 0 else w)))∧True))))) (TT 2 (CC (it w)∧TT 1 ((True∧(!(ao w)) = false)∧TT 4 ((True∧(decide (k < 0)) = false)∧TT 4 (IX 0 ws.length∧TT 3 (W6 ((ws.getD 0 0) - w)∧TT 2 (CD (k > ((ws.getD 0 0) - w)) (TT 2 ((((0 : Int) = (if ao w = false ∨ k < 0 ∨ ws.getD 0 0 - w < k then 0 else w)))∧True)) (TT 4 (((w = (if ao w = false ∨ k < 0 ∨ ws.getD 0 0 - w < k then 0 else w)))∧True)))))))))) (TT 2 (CC (it w)∧TT 1 ((True∧(!(ao w)) = true)∧TT 5 ((((0 : Int) = (if ao w = false ∨ k < 0 ∨ ws.getD 0 0 - w < k then 0 else w)))∧True)))))) (.s 1 ((ao w) = true) (.s 1 (k < 0) (.w 1 [(2,(it w).O),(4,.val (dB false)),(9,.val (dB true))] <| .e) (.w 1 [(2,(it w).O),(4,.val (dB false)),(9,.val (dB false)),(18,.val (i6 ((ws.getD 0 0) - w)))] <| .b 23 (.e) (.e))) (.w 1 [(2,(it w).O),(4,.val (dB true))] <| .e)) Try.func58 rfl rfl rfl (by kernel_rfl) ?_
 refine tt ⟨fun hs0 => ?_,fun hs0 => ?_⟩
 · refine ⟨fun hs1 => ?_,fun hs1 => ?_⟩
   · refine tt ⟨(bv w),tt ⟨(mF hs0),tt ⟨(vT hs1),tt ⟨?_,oK⟩⟩⟩⟩
     first | exact (if_pos (by first | assumption | omega)).symm | exact (if_neg (by first | assumption | omega)).symm | (split <;> first | rfl | omega | (simp_all; done) | (simp_all; omega))
   · refine tt ⟨(bv w),tt ⟨(mF hs0),tt ⟨(vF hs1),tt ⟨ix,tt ⟨(w6 (by have := bM.1 (show ao w = true by simp_all); omega) (by have := bM.1 (show ao w = true by simp_all); omega)),tt (cd (fun hc23 => ?_) (fun hc23 => ?_))⟩⟩⟩⟩⟩
     · refine tt ⟨?_,oK⟩
       first | exact (if_pos (by first | assumption | omega)).symm | exact (if_neg (by first | assumption | omega)).symm | (split <;> first | rfl | omega | (simp_all; done) | (simp_all; omega))
     · refine tt ⟨?_,oK⟩
       first | exact (if_pos (by first | assumption | omega)).symm | exact (if_neg (by first | assumption | omega)).symm | (split <;> first | rfl | omega | (simp_all; done) | (simp_all; omega))
 · refine tt ⟨(bv w),tt ⟨(mT hs0),tt ⟨?_,oK⟩⟩⟩
   first | exact (if_pos (by first | assumption | omega)).symm | exact (if_neg (by first | assumption | omega)).symm | (split <;> first | rfl | omega | (simp_all; done) | (simp_all; omega))
abbrev sP (ws xs : List Int) (k w : Int) : Ct := ⟨60,[(.agg [(LI ws),(LI xs),(i6 k),(i6 w)])],false,(i6 (if w < ws.getD 0 0 then 0 else w))⟩
theorem qi (ws xs : List Int) (k w : Int) (hl : ws.length = 1) (hf : ws.all ao = true) : CC (sP ws xs k w) := by
 have f0 : 0 < ws.length → 1 ≤ ws.getD 0 0∧ws.getD 0 0 ≤ 8 := fun h => aj hf h
 have f1 : 1 < ws.length → 1 ≤ ws.getD 1 0∧ws.getD 1 0 ≤ 8 := fun h => aj hf h
 have f2 : 2 < ws.length → 1 ≤ ws.getD 2 0∧ws.getD 2 0 ≤ 8 := fun h => aj hf h
 refine ai.vc (V := TT 6 (IX 0 ws.length∧TT 2 (CD (w < (ws.getD 0 0)) (TT 2 ((0 : Int) = (if w < ws.getD 0 0 then 0 else w)∧True)) (TT 4 (w = (if w < ws.getD 0 0 then 0 else w)∧True))))) (.b 9 (.e) (.e)) Try.func60 rfl rfl rfl (by kernel_rfl) ?_
 refine tt ⟨ix,tt (cd (fun hc9 => ?_) (fun hc9 => ?_))⟩
 · refine tt ⟨?_,oK⟩
   first | exact (if_pos (by first | assumption | omega)).symm | exact (if_neg (by first | assumption | omega)).symm | (split <;> first | rfl | omega | (simp_all; done) | (simp_all; omega))
 · refine tt ⟨?_,oK⟩
   first | exact (if_pos (by first | assumption | omega)).symm | exact (if_neg (by first | assumption | omega)).symm | (split <;> first | rfl | omega | (simp_all; done) | (simp_all; omega))
end Go.Proofs.Ytaghhicmnalmmaa
