/-
  Package bits: widths and values of operations.
-/
import Derived.Test.YtgmpoenfoacofaaGreatQBitP
namespace Go.Proofs.YtgmpoenfoacofaaGreat
open Go.RowKit
set_option linter.unusedVariables false
set_option linter.unusedSimpArgs false
set_option maxRecDepth 100000
abbrev f8 (n : Int) : Ct := ⟨126,[(i6 n)],false,(dB (an n))⟩
theorem dc (n : Int) : CC (f8 n) := by
 refine af.vc (V := TT 1 (CS (n ≥ 1) (TT 2 ((True∧(decide (n ≥ 1)) = true)∧TT 5 ((decide (n ≤ 8)) = (an n)∧True))) (TT 2 ((True∧(decide (n ≥ 1)) = false)∧TT 5 (false = (an n)∧True))))) (.s 1 (n ≥ 1) (.w 1 [(2,.val (dB true))] <| .e) (.w 1 [(2,.val (dB false))] <| .e)) Tryz.func126 rfl rfl rfl (by kernel_rfl) ?_
 refine tt ⟨fun hs0 => ?_,fun hs0 => ?_⟩
 · refine tt ⟨(vT hs0),tt ⟨?_,oK⟩⟩
   unfold an; simp; omega
 · refine tt ⟨(vF hs0),tt ⟨?_,oK⟩⟩
   unfold an; simp; omega
abbrev wW (w : Int) : Ct := ⟨122,[(i6 w)],false,(i6 (ah w))⟩
theorem rX (w : Int) : CC (wW w) := by
 refine af.vc (V := TT 1 (CS (w < 0) (TT 2 ((True∧(decide (w < 0)) = true)∧TT 5 ((0 : Int) = (ah w)∧True))) (TT 2 ((True∧(decide (w < 0)) = false)∧TT 3 (CD (w > 62) (TT 2 ((0 : Int) = (ah w)∧True)) (TT 1 (SH w∧W6 ((2 ^ w.toNat) - 1)∧TT 2 (((2 ^ w.toNat) - 1) = (ah w)∧True)))))))) (.s 1 (w < 0) (.w 1 [(2,.val (dB true))] <| .e) (.w 1 [(2,.val (dB false))] <| .b 8 (.e) (.w 3 [(1,.val (i6 (2 ^ w.toNat))),(2,.val (i6 ((2 ^ w.toNat) - 1)))] <| .e))) Tryz.func122 rfl rfl rfl (by kernel_rfl) ?_
 refine tt ⟨fun hs0 => ?_,fun hs0 => ?_⟩
 · refine tt ⟨(vT hs0),tt ⟨?_,oK⟩⟩
   unfold ah; first | exact (if_pos (by omega)).symm | exact (if_neg (by omega)).symm
 · refine tt ⟨(vF hs0),tt (cd (fun hc8 => ?_) (fun hc8 => ?_))⟩
   · refine tt ⟨?_,oK⟩
     unfold ah; first | exact (if_pos (by omega)).symm | exact (if_neg (by omega)).symm
   · refine tt ⟨sh,⟨(w6 (by have := mJ (n := w.toNat) (by omega); omega) (by have := mJ (n := w.toNat) (by omega); omega)),tt ⟨?_,oK⟩⟩⟩
     unfold ah; first | exact (if_pos (by omega)).symm | exact (if_neg (by omega)).symm
abbrev Ec (b : Bool) : Ct := ⟨138,[(dB b)],false,(i6 (if b = true then 1 else 0))⟩
theorem Ed (b : Bool) : CC (Ec b) := by
 refine af.vc (V := TT 2 (CB (b) (TT 2 ((1 : Int) = (if b = true then 1 else 0)∧True)) (TT 2 ((0 : Int) = (if b = true then 1 else 0)∧True)))) (.b 3 (.e) (.e)) Tryz.func138 rfl rfl rfl (by kernel_rfl) ?_
 refine tt ⟨fun hc3 => ?_,fun hc3 => ?_⟩
 · refine tt ⟨?_,oK⟩
   first | exact (if_pos hc3).symm | exact (if_neg (by rw [hc3]; simp)).symm
 · refine tt ⟨?_,oK⟩
   first | exact (if_pos hc3).symm | exact (if_neg (by rw [hc3]; simp)).symm
abbrev HY (n : Int) : Ct := ⟨125,[(i6 n)],false,(dB (!(an n)))⟩
theorem Ee (n : Int) : CC (HY n) := by
 refine af.vc (V := TT 2 (CC (f8 n)∧TT 3 ((!(an n)) = (!(an n))∧True))) (.w 1 [(1,(f8 n).O)] <| .e) Tryz.func125 rfl rfl rfl (by kernel_rfl) ?_
 exact tt ⟨(dc n),tt ⟨rfl,oK⟩⟩
abbrev KD (ws : List Int) : Ct := ⟨99,[(LI ws),(.fn (.func 125) [] [])],false,(i6 (qp 0 ws))⟩
abbrev oD (ws : List Int) : Lp (Nat) := f6 [0,1,7,8] 0 (fun (k : Nat) => ⟨[(0,(LI ws)),(1,(.fn (.func 125) [] [])),(7,(i6 (ws.length : Int))),(8,(i6 (k : Int)))],[]⟩) (fun (k : Nat) => k ≤ ws.length∧qp k (ws.drop k) = qp 0 ws) (fun (k : Nat) => ws.length - k)
theorem Ef (ws : List Int) (hl : ws.length ≤ 9223372036854775807) : CC (KD ws) := by
 refine af.vc (V := TT 4 (GO (oD ws) 0 (∀ k,(oD ws).inv k → TT 1 (CD ((k : Int) < (ws.length : Int)) (TT 5 (IX (k : Int) ws.length∧TT 1 (CC (HY (ws.getD k 0))∧CB (!(an (ws.getD k 0))) (TT 3 ((k : Int) = (qp 0 ws)∧True)) (W6 ((k + 1 : Nat) : Int)∧TT 1 (AG (oD ws) k (k + 1)))))) (TT 2 ((-1) = (qp 0 ws)∧True)))))) (.l (oD ws) 0 (fun k => .b 9 (.w 4 [(5,(HY (ws.getD k 0)).O)] <| .b 16 (.e) (.w 6 [(0,.val (i6 ((k + 1 : Nat) : Int)))] <| .e)) (.e))) Tryz.func99 rfl rfl rfl (by kernel_rfl) ?_
 refine tt ⟨rfl,⟨by omega,by rw [List.drop_zero]⟩,?_⟩
 intro k hinv
 obtain ⟨hk,hx⟩ := hinv
 refine tt (cd (fun hc9 => ?_) (fun hc9 => ?_))
 · refine tt ⟨ix,tt ⟨(Ee (ws.getD k 0)),⟨fun hc16 => ?_,fun hc16 => ?_⟩⟩⟩
   · refine tt ⟨?_,oK⟩
     rw [← hx,vD (show k < ws.length by omega),if_neg (by simpa using hc16)]
   · refine ⟨w6,tt ⟨(k + 1),rfl,?_,(?_ : ws.length - (k + 1) < ws.length - k)⟩⟩
     · refine ⟨by omega,?_⟩
       rw [← hx,vD (show k < ws.length by omega),if_pos (by simpa using hc16)]
     · omega
 · refine tt ⟨?_,oK⟩
   rw [← hx,List.drop_of_length_le (by omega)]; rfl
abbrev Gp (ws : List Int) : Ct := ⟨86,[(LI ws),(.fn (.func 125) [] [])],false,(dB (!(ws.all an)))⟩
theorem iz (ws : List Int) (hl : ws.length ≤ 9223372036854775807) : CC (Gp ws) := by
 refine af.vc (V := TT 3 (CC (KD ws)∧TT 3 ((decide ((qp 0 ws) ≥ 0)) = (!(ws.all an))∧True))) (.w 1 [(2,(KD ws).O)] <| .e) Tryz.func86 rfl rfl rfl (by kernel_rfl) ?_
 refine tt ⟨(Ef ws om),tt ⟨?_,oK⟩⟩
 rw [← vC ws 0]
abbrev KE (ws xs : List Int) (k w : Int) : Ct := ⟨127,[(.agg [(LI ws),(LI xs),(i6 k),(i6 w)])],false,(i6 (ws.getD 0 0))⟩
theorem Eg (ws xs : List Int) (k w : Int) (hl : ws.length = 1) (hf : ws.all an = true) : CC (KE ws xs k w) := by
 have f0 : 0 < ws.length → 1 ≤ ws.getD 0 0∧ws.getD 0 0 ≤ 8 := fun h => ax hf h
 have f1 : 1 < ws.length → 1 ≤ ws.getD 1 0∧ws.getD 1 0 ≤ 8 := fun h => ax hf h
 have f2 : 2 < ws.length → 1 ≤ ws.getD 2 0∧ws.getD 2 0 ≤ 8 := fun h => ax hf h
 refine af.vc (V := TT 4 (IX 0 ws.length∧TT 3 ((ws.getD 0 0) = (ws.getD 0 0)∧True))) (.e) Tryz.func127 rfl rfl rfl (by kernel_rfl) ?_
 exact tt ⟨ix,tt ⟨rfl,oK⟩⟩
abbrev HZ (ws xs : List Int) (k w : Int) : Ct := ⟨130,[(.agg [(LI ws),(LI xs),(i6 k),(i6 w)])],false,(i6 (bA ws))⟩
theorem jh (ws xs : List Int) (k w : Int) (hl : ws.length = 2) (hf : ws.all an = true) : CC (HZ ws xs k w) := by
 have f0 : 0 < ws.length → 1 ≤ ws.getD 0 0∧ws.getD 0 0 ≤ 8 := fun h => ax hf h
 have f1 : 1 < ws.length → 1 ≤ ws.getD 1 0∧ws.getD 1 0 ≤ 8 := fun h => ax hf h
 have f2 : 2 < ws.length → 1 ≤ ws.getD 2 0∧ws.getD 2 0 ≤ 8 := fun h => ax hf h
 refine af.vc (V := TT 4 (IX 0 ws.length∧TT 3 (IX 1 ws.length∧TT 2 (CN ((ws.getD 0 0) = (ws.getD 1 0)) (TT 2 ((0 : Int) = (bA ws)∧True)) (TT 2 (IX 0 ws.length∧TT 3 ((ws.getD 0 0) = (bA ws)∧True))))))) (.b 11 (.e) (.e)) Tryz.func130 rfl rfl rfl (by kernel_rfl) ?_
 refine tt ⟨ix,tt ⟨ix,tt (cn (fun hc11 => ?_) (fun hc11 => ?_))⟩⟩
 · refine tt ⟨?_,oK⟩
   first | exact (if_pos (by simpa using hc11)).symm | exact (if_neg (by simpa using hc11)).symm
 · refine tt ⟨ix,tt ⟨?_,oK⟩⟩
   first | exact (if_pos (by simpa using hc11)).symm | exact (if_neg (by simpa using hc11)).symm
abbrev KF (ws xs : List Int) (k w : Int) : Ct := ⟨136,[(.agg [(LI ws),(LI xs),(i6 k),(i6 w)])],false,(i6 (min (bA ws) 1))⟩
theorem Eh (ws xs : List Int) (k w : Int) (hl : ws.length = 2) (hf : ws.all an = true) : CC (KF ws xs k w) := by
 have f0 : 0 < ws.length → 1 ≤ ws.getD 0 0∧ws.getD 0 0 ≤ 8 := fun h => ax hf h
 have f1 : 1 < ws.length → 1 ≤ ws.getD 1 0∧ws.getD 1 0 ≤ 8 := fun h => ax hf h
 have f2 : 2 < ws.length → 1 ≤ ws.getD 2 0∧ws.getD 2 0 ≤ 8 := fun h => ax hf h
 refine af.vc (V := TT 3 (CC (HZ ws xs k w)∧(True∧(uH (bA ws) 1) = (min (bA ws) 1))∧TT 2 ((min (bA ws) 1) = (min (bA ws) 1)∧True))) (.w 1 [(1,(HZ ws xs k w).O),(2,.val (i6 (min (bA ws) 1)))] <| .e) Tryz.func136 rfl rfl rfl (by kernel_rfl) ?_
 exact tt ⟨(jh ws xs k w om hf),⟨⟨oK,(by unfold uH; split <;> omega)⟩,tt ⟨rfl,oK⟩⟩⟩
abbrev KG (ws xs : List Int) (k w : Int) : Ct := ⟨140,[(.agg [(LI ws),(LI xs),(i6 k),(i6 w)])],false,(i6 (if an w = false ∨ k < 0 ∨ ah w < k then 0 else w))⟩
theorem CA (ws xs : List Int) (k w : Int) (hl : ws.length = 0) (hf : ws.all an = true) : CC (KG ws xs k w) := by
 have f0 : 0 < ws.length → 1 ≤ ws.getD 0 0∧ws.getD 0 0 ≤ 8 := fun h => ax hf h
 have f1 : 1 < ws.length → 1 ≤ ws.getD 1 0∧ws.getD 1 0 ≤ 8 := fun h => ax hf h
 have f2 : 2 < ws.length → 1 ≤ ws.getD 2 0∧ws.getD 2 0 ≤ 8 := fun h => ax hf h
 refine af.vc (V := TT 2 (CS ((an w) = true) (CS (k < 0) (TT 2 (CC (f8 w)∧TT 1 ((True∧(!(an w)) = false)∧TT 4 ((True∧(decide (k < 0)) = true)∧TT 3 ((((0 : Int) = (if an w = false ∨ k < 0 ∨ ah w < k then 0 else w)))∧True))))) (TT 2 (CC (f8 w)∧TT 1 ((True∧(!(an w)) = false)∧TT 4 ((True∧(decide (k < 0)) = false)∧TT 4 (CC (wW w)∧TT 2 (CD (k > (ah w)) (TT 2 ((((0 : Int) = (if an w = false ∨ k < 0 ∨ ah w < k then 0 else w)))∧True)) (TT 4 (((w = (if an w = false ∨ k < 0 ∨ ah w < k then 0 else w)))∧True))))))))) (TT 2 (CC (f8 w)∧TT 1 ((True∧(!(an w)) = true)∧TT 5 ((((0 : Int) = (if an w = false ∨ k < 0 ∨ ah w < k then 0 else w)))∧True)))))) (.s 1 ((an w) = true) (.s 1 (k < 0) (.w 1 [(2,(f8 w).O),(4,.val (dB false)),(9,.val (dB true))] <| .e) (.w 1 [(2,(f8 w).O),(4,.val (dB false)),(9,.val (dB false)),(14,(wW w).O)] <| .b 19 (.e) (.e))) (.w 1 [(2,(f8 w).O),(4,.val (dB true))] <| .e)) Tryz.func140 rfl rfl rfl (by kernel_rfl) ?_
 refine tt ⟨fun hs0 => ?_,fun hs0 => ?_⟩
 · refine ⟨fun hs1 => ?_,fun hs1 => ?_⟩
   · refine tt ⟨(dc w),tt ⟨(mF hs0),tt ⟨(vT hs1),tt ⟨?_,oK⟩⟩⟩⟩
     first | exact (if_pos (by first | assumption | omega)).symm | exact (if_neg (by first | assumption | omega)).symm | (split <;> first | rfl | omega | (simp_all; done) | (simp_all; omega))
   · refine tt ⟨(dc w),tt ⟨(mF hs0),tt ⟨(vF hs1),tt ⟨(rX w),tt (cd (fun hc19 => ?_) (fun hc19 => ?_))⟩⟩⟩⟩
     · refine tt ⟨?_,oK⟩
       first | exact (if_pos (by first | assumption | omega)).symm | exact (if_neg (by first | assumption | omega)).symm | (split <;> first | rfl | omega | (simp_all; done) | (simp_all; omega))
     · refine tt ⟨?_,oK⟩
       first | exact (if_pos (by first | assumption | omega)).symm | exact (if_neg (by first | assumption | omega)).symm | (split <;> first | rfl | omega | (simp_all; done) | (simp_all; omega))
 · refine tt ⟨(dc w),tt ⟨(mT hs0),tt ⟨?_,oK⟩⟩⟩
   first | exact (if_pos (by first | assumption | omega)).symm | exact (if_neg (by first | assumption | omega)).symm | (split <;> first | rfl | omega | (simp_all; done) | (simp_all; omega))
abbrev KH (ws xs : List Int) (k w : Int) : Ct := ⟨142,[(.agg [(LI ws),(LI xs),(i6 k),(i6 w)])],false,(i6 (if ws.getD 0 0 ≠ 1 ∨ ws.getD 1 0 ≠ ws.getD 2 0 then 0 else ws.getD 1 0))⟩
theorem Gq (ws xs : List Int) (k w : Int) (hl : ws.length = 3) (hf : ws.all an = true) : CC (KH ws xs k w) := by
 have f0 : 0 < ws.length → 1 ≤ ws.getD 0 0∧ws.getD 0 0 ≤ 8 := fun h => ax hf h
 have f1 : 1 < ws.length → 1 ≤ ws.getD 1 0∧ws.getD 1 0 ≤ 8 := fun h => ax hf h
 have f2 : 2 < ws.length → 1 ≤ ws.getD 2 0∧ws.getD 2 0 ≤ 8 := fun h => ax hf h
 refine af.vc (V := TT 2 (CS ((ws.getD 0 0) = 1) (TT 2 (IX 0 ws.length∧TT 2 ((True∧(!decide ((ws.getD 0 0) = 1)) = false)∧TT 2 (IX 1 ws.length∧TT 3 (IX 2 ws.length∧TT 3 (CN ((ws.getD 1 0) = (ws.getD 2 0)) (TT 2 ((((0 : Int) = (if ws.getD 0 0 ≠ 1 ∨ ws.getD 1 0 ≠ ws.getD 2 0 then 0 else ws.getD 1 0)))∧True)) (TT 2 (IX 1 ws.length∧TT 3 ((((ws.getD 1 0) = (if ws.getD 0 0 ≠ 1 ∨ ws.getD 1 0 ≠ ws.getD 2 0 then 0 else ws.getD 1 0)))∧True))))))))) (TT 2 (IX 0 ws.length∧TT 2 ((True∧(!decide ((ws.getD 0 0) = 1)) = true)∧TT 3 ((((0 : Int) = (if ws.getD 0 0 ≠ 1 ∨ ws.getD 1 0 ≠ ws.getD 2 0 then 0 else ws.getD 1 0)))∧True)))))) (.s 1 ((ws.getD 0 0) = 1) (.w 1 [(5,.val (dB false))] <| .b 18 (.e) (.e)) (.w 1 [(5,.val (dB true))] <| .e)) Tryz.func142 rfl rfl rfl (by kernel_rfl) ?_
 refine tt ⟨fun hs0 => ?_,fun hs0 => ?_⟩
 · refine tt ⟨ix,tt ⟨(nF hs0),tt ⟨ix,tt ⟨ix,tt (cn (fun hc18 => ?_) (fun hc18 => ?_))⟩⟩⟩⟩
   · refine tt ⟨?_,oK⟩
     first | exact (if_pos (by first | assumption | omega)).symm | exact (if_neg (by first | assumption | omega)).symm | (split <;> first | rfl | omega | (simp_all; done) | (simp_all; omega))
   · refine tt ⟨ix,tt ⟨?_,oK⟩⟩
     first | exact (if_pos (by first | assumption | omega)).symm | exact (if_neg (by first | assumption | omega)).symm | (split <;> first | rfl | omega | (simp_all; done) | (simp_all; omega))
 · refine tt ⟨ix,tt ⟨(nT hs0),tt ⟨?_,oK⟩⟩⟩
   first | exact (if_pos (by first | assumption | omega)).symm | exact (if_neg (by first | assumption | omega)).symm | (split <;> first | rfl | omega | (simp_all; done) | (simp_all; omega))
abbrev KI (ws xs : List Int) (k w : Int) : Ct := ⟨144,[(.agg [(LI ws),(LI xs),(i6 k),(i6 w)])],false,(i6 (ws.getD 0 0 + ws.getD 1 0))⟩
theorem Gr (ws xs : List Int) (k w : Int) (hl : ws.length = 2) (hf : ws.all an = true) : CC (KI ws xs k w) := by
 have f0 : 0 < ws.length → 1 ≤ ws.getD 0 0∧ws.getD 0 0 ≤ 8 := fun h => ax hf h
 have f1 : 1 < ws.length → 1 ≤ ws.getD 1 0∧ws.getD 1 0 ≤ 8 := fun h => ax hf h
 have f2 : 2 < ws.length → 1 ≤ ws.getD 2 0∧ws.getD 2 0 ≤ 8 := fun h => ax hf h
 refine af.vc (V := TT 4 (IX 0 ws.length∧TT 3 (IX 1 ws.length∧TT 1 (W6 ((ws.getD 0 0) + (ws.getD 1 0))∧TT 2 (((ws.getD 0 0) + (ws.getD 1 0)) = (ws.getD 0 0 + ws.getD 1 0)∧True))))) (.w 1 [(8,.val (i6 ((ws.getD 0 0) + (ws.getD 1 0))))] <| .e) Tryz.func144 rfl rfl rfl (by kernel_rfl) ?_
 refine tt ⟨ix,tt ⟨ix,tt ⟨w6,tt ⟨?_,oK⟩⟩⟩⟩
 first | rfl | omega | (simp; first | done | omega)
abbrev KJ (ws xs : List Int) (k w : Int) : Ct := ⟨146,[(.agg [(LI ws),(LI xs),(i6 k),(i6 w)])],false,(i6 (if an w = false ∨ k < 0 ∨ ws.getD 0 0 - w < k then 0 else w))⟩
theorem CE (ws xs : List Int) (k w : Int) (hl : ws.length = 1) (hf : ws.all an = true) : CC (KJ ws xs k w) := by
 have f0 : 0 < ws.length → 1 ≤ ws.getD 0 0∧ws.getD 0 0 ≤ 8 := fun h => ax hf h
 have f1 : 1 < ws.length → 1 ≤ ws.getD 1 0∧ws.getD 1 0 ≤ 8 := fun h => ax hf h
 have f2 : 2 < ws.length → 1 ≤ ws.getD 2 0∧ws.getD 2 0 ≤ 8 := fun h => ax hf h
 refine af.vc (V := TT 2 (CS ((an w) = true) (CS (k < 0) (TT 2 (CC (f8 w)∧TT 1 ((True∧(!(an w)) = false)∧TT 4 ((True∧(decide (k < 0)) = true)∧TT 3 ((((0 : Int) = (if an w = false ∨ k < 0 ∨ ws.getD 0 0 - w < k then 0 else w)))∧True))))) (TT 2 (CC (f8 w)∧TT 1 ((True∧(!(an w)) = false)∧TT 4 ((True∧(decide (k < 0)) = false)∧TT 4 (IX 0 ws.length∧TT 3 (W6 ((ws.getD 0 0) - w)∧TT 2 (CD (k > ((ws.getD 0 0) - w)) (TT 2 ((((0 : Int) = (if an w = false ∨ k < 0 ∨ ws.getD 0 0 - w < k then 0 else w)))∧True)) (TT 4 (((w = (if an w = false ∨ k < 0 ∨ ws.getD 0 0 - w < k then 0 else w)))∧True)))))))))) (TT 2 (CC (f8 w)∧TT 1 ((True∧(!(an w)) = true)∧TT 5 ((((0 : Int) = (if an w = false ∨ k < 0 ∨ ws.getD 0 0 - w < k then 0 else w)))∧True)))))) (.s 1 ((an w) = true) (.s 1 (k < 0) (.w 1 [(2,(f8 w).O),(4,.val (dB false)),(9,.val (dB true))] <| .e) (.w 1 [(2,(f8 w).O),(4,.val (dB false)),(9,.val (dB false)),(18,.val (i6 ((ws.getD 0 0) - w)))] <| .b 23 (.e) (.e))) (.w 1 [(2,(f8 w).O),(4,.val (dB true))] <| .e)) Tryz.func146 rfl rfl rfl (by kernel_rfl) ?_
 refine tt ⟨fun hs0 => ?_,fun hs0 => ?_⟩
 · refine ⟨fun hs1 => ?_,fun hs1 => ?_⟩
   · refine tt ⟨(dc w),tt ⟨(mF hs0),tt ⟨(vT hs1),tt ⟨?_,oK⟩⟩⟩⟩
     first | exact (if_pos (by first | assumption | omega)).symm | exact (if_neg (by first | assumption | omega)).symm | (split <;> first | rfl | omega | (simp_all; done) | (simp_all; omega))
   · refine tt ⟨(dc w),tt ⟨(mF hs0),tt ⟨(vF hs1),tt ⟨ix,tt ⟨(w6 (by have := aP.1 (show an w = true by simp_all); omega) (by have := aP.1 (show an w = true by simp_all); omega)),tt (cd (fun hc23 => ?_) (fun hc23 => ?_))⟩⟩⟩⟩⟩
     · refine tt ⟨?_,oK⟩
       first | exact (if_pos (by first | assumption | omega)).symm | exact (if_neg (by first | assumption | omega)).symm | (split <;> first | rfl | omega | (simp_all; done) | (simp_all; omega))
     · refine tt ⟨?_,oK⟩
       first | exact (if_pos (by first | assumption | omega)).symm | exact (if_neg (by first | assumption | omega)).symm | (split <;> first | rfl | omega | (simp_all; done) | (simp_all; omega))
 · refine tt ⟨(dc w),tt ⟨(mT hs0),tt ⟨?_,oK⟩⟩⟩
   first | exact (if_pos (by first | assumption | omega)).symm | exact (if_neg (by first | assumption | omega)).symm | (split <;> first | rfl | omega | (simp_all; done) | (simp_all; omega))
abbrev KK (ws xs : List Int) (k w : Int) : Ct := ⟨148,[(.agg [(LI ws),(LI xs),(i6 k),(i6 w)])],false,(i6 (if w < ws.getD 0 0 then 0 else w))⟩
theorem Gs (ws xs : List Int) (k w : Int) (hl : ws.length = 1) (hf : ws.all an = true) : CC (KK ws xs k w) := by
 have f0 : 0 < ws.length → 1 ≤ ws.getD 0 0∧ws.getD 0 0 ≤ 8 := fun h => ax hf h
 have f1 : 1 < ws.length → 1 ≤ ws.getD 1 0∧ws.getD 1 0 ≤ 8 := fun h => ax hf h
 have f2 : 2 < ws.length → 1 ≤ ws.getD 2 0∧ws.getD 2 0 ≤ 8 := fun h => ax hf h
 refine af.vc (V := TT 6 (IX 0 ws.length∧TT 2 (CD (w < (ws.getD 0 0)) (TT 2 ((0 : Int) = (if w < ws.getD 0 0 then 0 else w)∧True)) (TT 4 (w = (if w < ws.getD 0 0 then 0 else w)∧True))))) (.b 9 (.e) (.e)) Tryz.func148 rfl rfl rfl (by kernel_rfl) ?_
 refine tt ⟨ix,tt (cd (fun hc9 => ?_) (fun hc9 => ?_))⟩
 · refine tt ⟨?_,oK⟩
   first | exact (if_pos (by first | assumption | omega)).symm | exact (if_neg (by first | assumption | omega)).symm | (split <;> first | rfl | omega | (simp_all; done) | (simp_all; omega))
 · refine tt ⟨?_,oK⟩
   first | exact (if_pos (by first | assumption | omega)).symm | exact (if_neg (by first | assumption | omega)).symm | (split <;> first | rfl | omega | (simp_all; done) | (simp_all; omega))
end Go.Proofs.YtgmpoenfoacofaaGreat
