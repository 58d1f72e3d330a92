/-
  Package bits: widths and values of operations.
-/
import Derived.Test.YtckgpflobhpnpaaQBitP
namespace Go.Proofs.Ytckgpflobhpnpaa
open Go.RowKit
set_option linter.unusedVariables false
set_option linter.unusedSimpArgs false
set_option maxRecDepth 100000
abbrev sZ (n : Int) : Ct := ⟨83,[(i6 n)],false,(dB (ay n))⟩
theorem dj (n : Int) : CC (sZ n) := by
 refine ai.vc (V := TT 1 (CS (n ≥ 1) (TT 2 ((True∧(decide (n ≥ 1)) = true)∧TT 5 ((decide (n ≤ 8)) = (ay n)∧True))) (TT 2 ((True∧(decide (n ≥ 1)) = false)∧TT 5 (false = (ay n)∧True))))) (.s 1 (n ≥ 1) (.w 1 [(2,.val (dB true))] <| .e) (.w 1 [(2,.val (dB false))] <| .e)) Try.func83 rfl rfl rfl (by kernel_rfl) ?_
 refine tt ⟨fun hs0 => ?_,fun hs0 => ?_⟩
 · refine tt ⟨(vT hs0),tt ⟨?_,oK⟩⟩
   unfold ay; simp; omega
 · refine tt ⟨(vF hs0),tt ⟨?_,oK⟩⟩
   unfold ay; simp; omega
abbrev H4 (w : Int) : Ct := ⟨78,[(i6 w)],false,(i6 (an w))⟩
theorem tv (w : Int) : CC (H4 w) := by
 refine ai.vc (V := TT 1 (CS (w < 0) (TT 2 ((True∧(decide (w < 0)) = true)∧TT 5 ((0 : Int) = (an w)∧True))) (TT 2 ((True∧(decide (w < 0)) = false)∧TT 3 (CD (w > 62) (TT 2 ((0 : Int) = (an w)∧True)) (TT 1 (SH w∧W6 ((2 ^ w.toNat) - 1)∧TT 2 (((2 ^ w.toNat) - 1) = (an w)∧True)))))))) (.s 1 (w < 0) (.w 1 [(2,.val (dB true))] <| .e) (.w 1 [(2,.val (dB false))] <| .b 8 (.e) (.w 3 [(1,.val (i6 (2 ^ w.toNat))),(2,.val (i6 ((2 ^ w.toNat) - 1)))] <| .e))) Try.func78 rfl rfl rfl (by kernel_rfl) ?_
 refine tt ⟨fun hs0 => ?_,fun hs0 => ?_⟩
 · refine tt ⟨(vT hs0),tt ⟨?_,oK⟩⟩
   unfold an; first | exact (if_pos (by omega)).symm | exact (if_neg (by omega)).symm
 · refine tt ⟨(vF hs0),tt (cd (fun hc8 => ?_) (fun hc8 => ?_))⟩
   · refine tt ⟨?_,oK⟩
     unfold an; first | exact (if_pos (by omega)).symm | exact (if_neg (by omega)).symm
   · refine tt ⟨sh,⟨(w6 (by have := oT (n := w.toNat) (by omega); omega) (by have := oT (n := w.toNat) (by omega); omega)),tt ⟨?_,oK⟩⟩⟩
     unfold an; first | exact (if_pos (by omega)).symm | exact (if_neg (by omega)).symm
abbrev LF (b : Bool) : Ct := ⟨95,[(dB b)],false,(i6 (if b = true then 1 else 0))⟩
theorem Fy (b : Bool) : CC (LF b) := by
 refine ai.vc (V := TT 2 (CB (b) (TT 2 ((1 : Int) = (if b = true then 1 else 0)∧True)) (TT 2 ((0 : Int) = (if b = true then 1 else 0)∧True)))) (.b 3 (.e) (.e)) Try.func95 rfl rfl rfl (by kernel_rfl) ?_
 refine tt ⟨fun hc3 => ?_,fun hc3 => ?_⟩
 · refine tt ⟨?_,oK⟩
   first | exact (if_pos hc3).symm | exact (if_neg (by rw [hc3]; simp)).symm
 · refine tt ⟨?_,oK⟩
   first | exact (if_pos hc3).symm | exact (if_neg (by rw [hc3]; simp)).symm
abbrev ML (n : Int) : Ct := ⟨82,[(i6 n)],false,(dB (!(ay n)))⟩
theorem FA (n : Int) : CC (ML n) := by
 refine ai.vc (V := TT 2 (CC (sZ n)∧TT 3 ((!(ay n)) = (!(ay n))∧True))) (.w 1 [(1,(sZ n).O)] <| .e) Try.func82 rfl rfl rfl (by kernel_rfl) ?_
 exact tt ⟨(dj n),tt ⟨rfl,oK⟩⟩
abbrev MM (ws : List Int) : Ct := ⟨57,[(LI ws),(.fn (.func 82) [] [])],false,(i6 (rO 0 ws))⟩
abbrev qr (ws : List Int) : Lp (Nat) := oS [0,1,7,8] 0 (fun (k : Nat) => ⟨[(0,(LI ws)),(1,(.fn (.func 82) [] [])),(7,(i6 (ws.length : Int))),(8,(i6 (k : Int)))],[]⟩) (fun (k : Nat) => k ≤ ws.length∧rO k (ws.drop k) = rO 0 ws) (fun (k : Nat) => ws.length - k)
theorem FB (ws : List Int) (hl : ws.length ≤ 9223372036854775807) : CC (MM ws) := by
 refine ai.vc (V := TT 4 (GO (qr ws) 0 (∀ k,(qr ws).inv k → TT 1 (CD ((k : Int) < (ws.length : Int)) (TT 5 (IX (k : Int) ws.length∧TT 1 (CC (ML (ws.getD k 0))∧CB (!(ay (ws.getD k 0))) (TT 3 ((k : Int) = (rO 0 ws)∧True)) (W6 ((k + 1 : Nat) : Int)∧TT 1 (AG (qr ws) k (k + 1)))))) (TT 2 ((-1) = (rO 0 ws)∧True)))))) (.l (qr ws) 0 (fun k => .b 9 (.w 4 [(5,(ML (ws.getD k 0)).O)] <| .b 16 (.e) (.w 6 [(0,.val (i6 ((k + 1 : Nat) : Int)))] <| .e)) (.e))) Try.func57 rfl rfl rfl (by kernel_rfl) ?_
 refine tt ⟨rfl,⟨by omega,by rw [List.drop_zero]⟩,?_⟩
 intro k hinv
 obtain ⟨hk,hx⟩ := hinv
 refine tt (cd (fun hc9 => ?_) (fun hc9 => ?_))
 · refine tt ⟨ix,tt ⟨(FA (ws.getD k 0)),⟨fun hc16 => ?_,fun hc16 => ?_⟩⟩⟩
   · refine tt ⟨?_,oK⟩
     rw [← hx,wu (show k < ws.length by omega),if_neg (by simpa using hc16)]
   · refine ⟨w6,tt ⟨(k + 1),rfl,?_,(?_ : ws.length - (k + 1) < ws.length - k)⟩⟩
     · refine ⟨by omega,?_⟩
       rw [← hx,wu (show k < ws.length by omega),if_pos (by simpa using hc16)]
     · omega
 · refine tt ⟨?_,oK⟩
   rw [← hx,List.drop_of_length_le (by omega)]; rfl
abbrev H5 (ws : List Int) : Ct := ⟨47,[(LI ws),(.fn (.func 82) [] [])],false,(dB (!(ws.all ay)))⟩
theorem je (ws : List Int) (hl : ws.length ≤ 9223372036854775807) : CC (H5 ws) := by
 refine ai.vc (V := TT 3 (CC (MM ws)∧TT 3 ((decide ((rO 0 ws) ≥ 0)) = (!(ws.all ay))∧True))) (.w 1 [(2,(MM ws).O)] <| .e) Try.func47 rfl rfl rfl (by kernel_rfl) ?_
 refine tt ⟨(FB ws om),tt ⟨?_,oK⟩⟩
 rw [← wt ws 0]
abbrev N2 (ws xs : List Int) (k w : Int) : Ct := ⟨84,[(.agg [(LI ws),(LI xs),(i6 k),(i6 w)])],false,(i6 (ws.getD 0 0))⟩
theorem FC (ws xs : List Int) (k w : Int) (hl : ws.length = 1) (hf : ws.all ay = true) : CC (N2 ws xs k w) := by
 have f0 : 0 < ws.length → 1 ≤ ws.getD 0 0∧ws.getD 0 0 ≤ 8 := fun h => aC hf h
 have f1 : 1 < ws.length → 1 ≤ ws.getD 1 0∧ws.getD 1 0 ≤ 8 := fun h => aC hf h
 have f2 : 2 < ws.length → 1 ≤ ws.getD 2 0∧ws.getD 2 0 ≤ 8 := fun h => aC hf h
 refine ai.vc (V := TT 4 (IX 0 ws.length∧TT 3 ((ws.getD 0 0) = (ws.getD 0 0)∧True))) (.e) Try.func84 rfl rfl rfl (by kernel_rfl) ?_
 exact tt ⟨ix,tt ⟨rfl,oK⟩⟩
abbrev MN (ws xs : List Int) (k w : Int) : Ct := ⟨87,[(.agg [(LI ws),(LI xs),(i6 k),(i6 w)])],false,(i6 (bW ws))⟩
theorem jP (ws xs : List Int) (k w : Int) (hl : ws.length = 2) (hf : ws.all ay = true) : CC (MN ws xs k w) := by
 have f0 : 0 < ws.length → 1 ≤ ws.getD 0 0∧ws.getD 0 0 ≤ 8 := fun h => aC hf h
 have f1 : 1 < ws.length → 1 ≤ ws.getD 1 0∧ws.getD 1 0 ≤ 8 := fun h => aC hf h
 have f2 : 2 < ws.length → 1 ≤ ws.getD 2 0∧ws.getD 2 0 ≤ 8 := fun h => aC hf h
 refine ai.vc (V := TT 4 (IX 0 ws.length∧TT 3 (IX 1 ws.length∧TT 2 (CN ((ws.getD 0 0) = (ws.getD 1 0)) (TT 2 ((0 : Int) = (bW ws)∧True)) (TT 2 (IX 0 ws.length∧TT 3 ((ws.getD 0 0) = (bW ws)∧True))))))) (.b 11 (.e) (.e)) Try.func87 rfl rfl rfl (by kernel_rfl) ?_
 refine tt ⟨ix,tt ⟨ix,tt (cn (fun hc11 => ?_) (fun hc11 => ?_))⟩⟩
 · refine tt ⟨?_,oK⟩
   first | exact (if_pos (by simpa using hc11)).symm | exact (if_neg (by simpa using hc11)).symm
 · refine tt ⟨ix,tt ⟨?_,oK⟩⟩
   first | exact (if_pos (by simpa using hc11)).symm | exact (if_neg (by simpa using hc11)).symm
abbrev N3 (ws xs : List Int) (k w : Int) : Ct := ⟨93,[(.agg [(LI ws),(LI xs),(i6 k),(i6 w)])],false,(i6 (min (bW ws) 1))⟩
theorem FD (ws xs : List Int) (k w : Int) (hl : ws.length = 2) (hf : ws.all ay = true) : CC (N3 ws xs k w) := by
 have f0 : 0 < ws.length → 1 ≤ ws.getD 0 0∧ws.getD 0 0 ≤ 8 := fun h => aC hf h
 have f1 : 1 < ws.length → 1 ≤ ws.getD 1 0∧ws.getD 1 0 ≤ 8 := fun h => aC hf h
 have f2 : 2 < ws.length → 1 ≤ ws.getD 2 0∧ws.getD 2 0 ≤ 8 := fun h => aC hf h
 refine ai.vc (V := TT 3 (CC (MN ws xs k w)∧(True∧(sV (bW ws) 1) = (min (bW ws) 1))∧TT 2 ((min (bW ws) 1) = (min (bW ws) 1)∧True))) (.w 1 [(1,(MN ws xs k w).O),(2,.val (i6 (min (bW ws) 1)))] <| .e) Try.func93 rfl rfl rfl (by kernel_rfl) ?_
 exact tt ⟨(jP ws xs k w om hf),⟨⟨oK,(by unfold sV; split <;> omega)⟩,tt ⟨rfl,oK⟩⟩⟩
abbrev N4 (ws xs : List Int) (k w : Int) : Ct := ⟨97,[(.agg [(LI ws),(LI xs),(i6 k),(i6 w)])],false,(i6 (if ay w = false ∨ k < 0 ∨ an w < k then 0 else w))⟩
theorem DX (ws xs : List Int) (k w : Int) (hl : ws.length = 0) (hf : ws.all ay = true) : CC (N4 ws xs k w) := by
 have f0 : 0 < ws.length → 1 ≤ ws.getD 0 0∧ws.getD 0 0 ≤ 8 := fun h => aC hf h
 have f1 : 1 < ws.length → 1 ≤ ws.getD 1 0∧ws.getD 1 0 ≤ 8 := fun h => aC hf h
 have f2 : 2 < ws.length → 1 ≤ ws.getD 2 0∧ws.getD 2 0 ≤ 8 := fun h => aC hf h
 refine ai.vc (V := TT 2 (CS ((ay w) = true) (CS (k < 0) (TT 2 (CC (sZ w)∧TT 1 ((True∧(!(ay w)) = false)∧TT 4 ((True∧(decide (k < 0)) = true)∧TT 3 ((((0 : Int) = (if ay w = false ∨ k < 0 ∨ an w < k then 0 else w)))∧True))))) (TT 2 (CC (sZ w)∧TT 1 ((True∧(!(ay w)) = false)∧TT 4 ((True∧(decide (k < 0)) = false)∧TT 4 (CC (H4 w)∧TT 2 (CD (k > (an w)) (TT 2 ((((0 : Int) = (if ay w = false ∨ k < 0 ∨ an w < k then 0 else w)))∧True)) (TT 4 (((w = (if ay w = false ∨ k < 0 ∨ an w < k then 0 else w)))∧True))))))))) (TT 2 (CC (sZ w)∧TT 1 ((True∧(!(ay w)) = true)∧TT 5 ((((0 : Int) = (if ay w = false ∨ k < 0 ∨ an w < k then 0 else w)))∧True)))))) (.s 1 ((ay w) = true) (.s 1 (k < 0) (.w 1 [(2,(sZ w).O),(4,.val (dB false)),(9,.val (dB true))] <| .e) (.w 1 [(2,(sZ w).O),(4,.val (dB false)),(9,.val (dB false)),(14,(H4 w).O)] <| .b 19 (.e) (.e))) (.w 1 [(2,(sZ w).O),(4,.val (dB true))] <| .e)) Try.func97 rfl rfl rfl (by kernel_rfl) ?_
 refine tt ⟨fun hs0 => ?_,fun hs0 => ?_⟩
 · refine ⟨fun hs1 => ?_,fun hs1 => ?_⟩
   · refine tt ⟨(dj w),tt ⟨(mF hs0),tt ⟨(vT hs1),tt ⟨?_,oK⟩⟩⟩⟩
     first | exact (if_pos (by first | assumption | omega)).symm | exact (if_neg (by first | assumption | omega)).symm | (split <;> first | rfl | omega | (simp_all; done) | (simp_all; omega))
   · refine tt ⟨(dj w),tt ⟨(mF hs0),tt ⟨(vF hs1),tt ⟨(tv w),tt (cd (fun hc19 => ?_) (fun hc19 => ?_))⟩⟩⟩⟩
     · refine tt ⟨?_,oK⟩
       first | exact (if_pos (by first | assumption | omega)).symm | exact (if_neg (by first | assumption | omega)).symm | (split <;> first | rfl | omega | (simp_all; done) | (simp_all; omega))
     · refine tt ⟨?_,oK⟩
       first | exact (if_pos (by first | assumption | omega)).symm | exact (if_neg (by first | assumption | omega)).symm | (split <;> first | rfl | omega | (simp_all; done) | (simp_all; omega))
 · refine tt ⟨(dj w),tt ⟨(mT hs0),tt ⟨?_,oK⟩⟩⟩
   first | exact (if_pos (by first | assumption | omega)).symm | exact (if_neg (by first | assumption | omega)).symm | (split <;> first | rfl | omega | (simp_all; done) | (simp_all; omega))
abbrev N5 (ws xs : List Int) (k w : Int) : Ct := ⟨99,[(.agg [(LI ws),(LI xs),(i6 k),(i6 w)])],false,(i6 (if ws.getD 0 0 ≠ 1 ∨ ws.getD 1 0 ≠ ws.getD 2 0 then 0 else ws.getD 1 0))⟩
theorem H6 (ws xs : List Int) (k w : Int) (hl : ws.length = 3) (hf : ws.all ay = true) : CC (N5 ws xs k w) := by
 have f0 : 0 < ws.length → 1 ≤ ws.getD 0 0∧ws.getD 0 0 ≤ 8 := fun h => aC hf h
 have f1 : 1 < ws.length → 1 ≤ ws.getD 1 0∧ws.getD 1 0 ≤ 8 := fun h => aC hf h
 have f2 : 2 < ws.length → 1 ≤ ws.getD 2 0∧ws.getD 2 0 ≤ 8 := fun h => aC hf h
 refine ai.vc (V := TT 2 (CS ((ws.getD 0 0) = 1) (TT 2 (IX 0 ws.length∧TT 2 ((True∧(!decide ((ws.getD 0 0) = 1)) = false)∧TT 2 (IX 1 ws.length∧TT 3 (IX 2 ws.length∧TT 3 (CN ((ws.getD 1 0) = (ws.getD 2 0)) (TT 2 ((((0 : Int) = (if ws.getD 0 0 ≠ 1 ∨ ws.getD 1 0 ≠ ws.getD 2 0 then 0 else ws.getD 1 0)))∧True)) (TT 2 (IX 1 ws.length∧TT 3 ((((ws.getD 1 0) = (if ws.getD 0 0 ≠ 1 ∨ ws.getD 1 0 ≠ ws.getD 2 0 then 0 else ws.getD 1 0)))∧True))))))))) (TT 2 (IX 0 ws.length∧TT 2 ((True∧(!decide ((ws.getD 0 0) = 1)) = true)∧TT 3 ((((0 : Int) = (if ws.getD 0 0 ≠ 1 ∨ ws.getD 1 0 ≠ ws.getD 2 0 then 0 else ws.getD 1 0)))∧True)))))) (.s 1 ((ws.getD 0 0) = 1) (.w 1 [(5,.val (dB false))] <| .b 18 (.e) (.e)) (.w 1 [(5,.val (dB true))] <| .e)) Try.func99 rfl rfl rfl (by kernel_rfl) ?_
 refine tt ⟨fun hs0 => ?_,fun hs0 => ?_⟩
 · refine tt ⟨ix,tt ⟨(nF hs0),tt ⟨ix,tt ⟨ix,tt (cn (fun hc18 => ?_) (fun hc18 => ?_))⟩⟩⟩⟩
   · refine tt ⟨?_,oK⟩
     first | exact (if_pos (by first | assumption | omega)).symm | exact (if_neg (by first | assumption | omega)).symm | (split <;> first | rfl | omega | (simp_all; done) | (simp_all; omega))
   · refine tt ⟨ix,tt ⟨?_,oK⟩⟩
     first | exact (if_pos (by first | assumption | omega)).symm | exact (if_neg (by first | assumption | omega)).symm | (split <;> first | rfl | omega | (simp_all; done) | (simp_all; omega))
 · refine tt ⟨ix,tt ⟨(nT hs0),tt ⟨?_,oK⟩⟩⟩
   first | exact (if_pos (by first | assumption | omega)).symm | exact (if_neg (by first | assumption | omega)).symm | (split <;> first | rfl | omega | (simp_all; done) | (simp_all; omega))
abbrev MO (ws xs : List Int) (k w : Int) : Ct := ⟨101,[(.agg [(LI ws),(LI xs),(i6 k),(i6 w)])],false,(i6 (ws.getD 0 0 + ws.getD 1 0))⟩
theorem H7 (ws xs : List Int) (k w : Int) (hl : ws.length = 2) (hf : ws.all ay = true) : CC (MO ws xs k w) := by
 have f0 : 0 < ws.length → 1 ≤ ws.getD 0 0∧ws.getD 0 0 ≤ 8 := fun h => aC hf h
 have f1 : 1 < ws.length → 1 ≤ ws.getD 1 0∧ws.getD 1 0 ≤ 8 := fun h => aC hf h
 have f2 : 2 < ws.length → 1 ≤ ws.getD 2 0∧ws.getD 2 0 ≤ 8 := fun h => aC hf h
 refine ai.vc (V := TT 4 (IX 0 ws.length∧TT 3 (IX 1 ws.length∧TT 1 (W6 ((ws.getD 0 0) + (ws.getD 1 0))∧TT 2 (((ws.getD 0 0) + (ws.getD 1 0)) = (ws.getD 0 0 + ws.getD 1 0)∧True))))) (.w 1 [(8,.val (i6 ((ws.getD 0 0) + (ws.getD 1 0))))] <| .e) Try.func101 rfl rfl rfl (by kernel_rfl) ?_
 refine tt ⟨ix,tt ⟨ix,tt ⟨w6,tt ⟨?_,oK⟩⟩⟩⟩
 first | rfl | omega | (simp; first | done | omega)
abbrev MP (ws xs : List Int) (k w : Int) : Ct := ⟨103,[(.agg [(LI ws),(LI xs),(i6 k),(i6 w)])],false,(i6 (if ay w = false ∨ k < 0 ∨ ws.getD 0 0 - w < k then 0 else w))⟩
theorem DY (ws xs : List Int) (k w : Int) (hl : ws.length = 1) (hf : ws.all ay = true) : CC (MP ws xs k w) := by
 have f0 : 0 < ws.length → 1 ≤ ws.getD 0 0∧ws.getD 0 0 ≤ 8 := fun h => aC hf h
 have f1 : 1 < ws.length → 1 ≤ ws.getD 1 0∧ws.getD 1 0 ≤ 8 := fun h => aC hf h
 have f2 : 2 < ws.length → 1 ≤ ws.getD 2 0∧ws.getD 2 0 ≤ 8 := fun h => aC hf h
 refine ai.vc (V := TT 2 (CS ((ay w) = true) (CS (k < 0) (TT 2 (CC (sZ w)∧TT 1 ((True∧(!(ay w)) = false)∧TT 4 ((True∧(decide (k < 0)) = true)∧TT 3 ((((0 : Int) = (if ay w = false ∨ k < 0 ∨ ws.getD 0 0 - w < k then 0 else w)))∧True))))) (TT 2 (CC (sZ w)∧TT 1 ((True∧(!(ay w)) = false)∧TT 4 ((True∧(decide (k < 0)) = false)∧TT 4 (IX 0 ws.length∧TT 3 (W6 ((ws.getD 0 0) - w)∧TT 2 (CD (k > ((ws.getD 0 0) - w)) (TT 2 ((((0 : Int) = (if ay w = false ∨ k < 0 ∨ ws.getD 0 0 - w < k then 0 else w)))∧True)) (TT 4 (((w = (if ay w = false ∨ k < 0 ∨ ws.getD 0 0 - w < k then 0 else w)))∧True)))))))))) (TT 2 (CC (sZ w)∧TT 1 ((True∧(!(ay w)) = true)∧TT 5 ((((0 : Int) = (if ay w = false ∨ k < 0 ∨ ws.getD 0 0 - w < k then 0 else w)))∧True)))))) (.s 1 ((ay w) = true) (.s 1 (k < 0) (.w 1 [(2,(sZ w).O),(4,.val (dB false)),(9,.val (dB true))] <| .e) (.w 1 [(2,(sZ w).O),(4,.val (dB false)),(9,.val (dB false)),(18,.val (i6 ((ws.getD 0 0) - w)))] <| .b 23 (.e) (.e))) (.w 1 [(2,(sZ w).O),(4,.val (dB true))] <| .e)) Try.func103 rfl rfl rfl (by kernel_rfl) ?_
 refine tt ⟨fun hs0 => ?_,fun hs0 => ?_⟩
 · refine ⟨fun hs1 => ?_,fun hs1 => ?_⟩
   · refine tt ⟨(dj w),tt ⟨(mF hs0),tt ⟨(vT hs1),tt ⟨?_,oK⟩⟩⟩⟩
     first | exact (if_pos (by first | assumption | omega)).symm | exact (if_neg (by first | assumption | omega)).symm | (split <;> first | rfl | omega | (simp_all; done) | (simp_all; omega))
   · refine tt ⟨(dj w),tt ⟨(mF hs0),tt ⟨(vF hs1),tt ⟨ix,tt ⟨(w6 (by have := bo.1 (show ay w = true by simp_all); omega) (by have := bo.1 (show ay w = true by simp_all); omega)),tt (cd (fun hc23 => ?_) (fun hc23 => ?_))⟩⟩⟩⟩⟩
     · refine tt ⟨?_,oK⟩
       first | exact (if_pos (by first | assumption | omega)).symm | exact (if_neg (by first | assumption | omega)).symm | (split <;> first | rfl | omega | (simp_all; done) | (simp_all; omega))
     · refine tt ⟨?_,oK⟩
       first | exact (if_pos (by first | assumption | omega)).symm | exact (if_neg (by first | assumption | omega)).symm | (split <;> first | rfl | omega | (simp_all; done) | (simp_all; omega))
 · refine tt ⟨(dj w),tt ⟨(mT hs0),tt ⟨?_,oK⟩⟩⟩
   first | exact (if_pos (by first | assumption | omega)).symm | exact (if_neg (by first | assumption | omega)).symm | (split <;> first | rfl | omega | (simp_all; done) | (simp_all; omega))
abbrev MQ (ws xs : List Int) (k w : Int) : Ct := ⟨105,[(.agg [(LI ws),(LI xs),(i6 k),(i6 w)])],false,(i6 (if w < ws.getD 0 0 then 0 else w))⟩
theorem H8 (ws xs : List Int) (k w : Int) (hl : ws.length = 1) (hf : ws.all ay = true) : CC (MQ ws xs k w) := by
 have f0 : 0 < ws.length → 1 ≤ ws.getD 0 0∧ws.getD 0 0 ≤ 8 := fun h => aC hf h
 have f1 : 1 < ws.length → 1 ≤ ws.getD 1 0∧ws.getD 1 0 ≤ 8 := fun h => aC hf h
 have f2 : 2 < ws.length → 1 ≤ ws.getD 2 0∧ws.getD 2 0 ≤ 8 := fun h => aC hf h
 refine ai.vc (V := TT 6 (IX 0 ws.length∧TT 2 (CD (w < (ws.getD 0 0)) (TT 2 ((0 : Int) = (if w < ws.getD 0 0 then 0 else w)∧True)) (TT 4 (w = (if w < ws.getD 0 0 then 0 else w)∧True))))) (.b 9 (.e) (.e)) Try.func105 rfl rfl rfl (by kernel_rfl) ?_
 refine tt ⟨ix,tt (cd (fun hc9 => ?_) (fun hc9 => ?_))⟩
 · refine tt ⟨?_,oK⟩
   first | exact (if_pos (by first | assumption | omega)).symm | exact (if_neg (by first | assumption | omega)).symm | (split <;> first | rfl | omega | (simp_all; done) | (simp_all; omega))
 · refine tt ⟨?_,oK⟩
   first | exact (if_pos (by first | assumption | omega)).symm | exact (if_neg (by first | assumption | omega)).symm | (split <;> first | rfl | omega | (simp_all; done) | (simp_all; omega))
end Go.Proofs.Ytckgpflobhpnpaa
