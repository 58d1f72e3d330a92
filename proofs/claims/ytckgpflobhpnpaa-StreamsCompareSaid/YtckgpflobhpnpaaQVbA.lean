/-
  Package bits: widths and values of operations.
-/
import Derived.Test.YtckgpflobhpnpaaQVp
import Derived.Test.YtckgpflobhpnpaaQBitP
namespace Go.Proofs.Ytckgpflobhpnpaa
open Go.RowKit
set_option linter.unusedVariables false
set_option linter.unusedSimpArgs false
set_option maxRecDepth 100000
abbrev rj (n : Int) : Ct := ⟨83,[(i6 n)],false,(dB (aw n))⟩
theorem cY (n : Int) : CC (rj n) := by
 refine ai.vc (V := TT 1 (CS (n ≥ 1) (TT 2 ((True∧(decide (n ≥ 1)) = true)∧TT 5 ((decide (n ≤ 8)) = (aw n)∧True))) (TT 2 ((True∧(decide (n ≥ 1)) = false)∧TT 5 (false = (aw n)∧True))))) (.s 1 (n ≥ 1) (.w 1 [(2,.val (dB true))] <| .e) (.w 1 [(2,.val (dB false))] <| .e)) Try.func83 rfl rfl rfl (by kernel_rfl) ?_
 refine tt ⟨fun hs0 => ?_,fun hs0 => ?_⟩
 · refine tt ⟨(vT hs0),tt ⟨?_,oK⟩⟩
   unfold aw; simp; omega
 · refine tt ⟨(vF hs0),tt ⟨?_,oK⟩⟩
   unfold aw; simp; omega
abbrev EX (w : Int) : Ct := ⟨78,[(i6 w)],false,(i6 (ak w))⟩
theorem rJ (w : Int) : CC (EX w) := by
 refine ai.vc (V := TT 1 (CS (w < 0) (TT 2 ((True∧(decide (w < 0)) = true)∧TT 5 ((0 : Int) = (ak w)∧True))) (TT 2 ((True∧(decide (w < 0)) = false)∧TT 3 (CD (w > 62) (TT 2 ((0 : Int) = (ak w)∧True)) (TT 1 (SH w∧W6 ((2 ^ w.toNat) - 1)∧TT 2 (((2 ^ w.toNat) - 1) = (ak w)∧True)))))))) (.s 1 (w < 0) (.w 1 [(2,.val (dB true))] <| .e) (.w 1 [(2,.val (dB false))] <| .b 8 (.e) (.w 3 [(1,.val (i6 (2 ^ w.toNat))),(2,.val (i6 ((2 ^ w.toNat) - 1)))] <| .e))) Try.func78 rfl rfl rfl (by kernel_rfl) ?_
 refine tt ⟨fun hs0 => ?_,fun hs0 => ?_⟩
 · refine tt ⟨(vT hs0),tt ⟨?_,oK⟩⟩
   unfold ak; first | exact (if_pos (by omega)).symm | exact (if_neg (by omega)).symm
 · refine tt ⟨(vF hs0),tt (cd (fun hc8 => ?_) (fun hc8 => ?_))⟩
   · refine tt ⟨?_,oK⟩
     unfold ak; first | exact (if_pos (by omega)).symm | exact (if_neg (by omega)).symm
   · refine tt ⟨sh,⟨(w6 (by have := uz (n := w.toNat) (by omega); omega) (by have := uz (n := w.toNat) (by omega); omega)),tt ⟨?_,oK⟩⟩⟩
     unfold ak; first | exact (if_pos (by omega)).symm | exact (if_neg (by omega)).symm
abbrev Ic (b : Bool) : Ct := ⟨95,[(dB b)],false,(i6 (if b = true then 1 else 0))⟩
theorem CT (b : Bool) : CC (Ic b) := by
 refine ai.vc (V := TT 2 (CB (b) (TT 2 ((1 : Int) = (if b = true then 1 else 0)∧True)) (TT 2 ((0 : Int) = (if b = true then 1 else 0)∧True)))) (.b 3 (.e) (.e)) Try.func95 rfl rfl rfl (by kernel_rfl) ?_
 refine tt ⟨fun hc3 => ?_,fun hc3 => ?_⟩
 · refine tt ⟨?_,oK⟩
   first | exact (if_pos hc3).symm | exact (if_neg (by rw [hc3]; simp)).symm
 · refine tt ⟨?_,oK⟩
   first | exact (if_pos hc3).symm | exact (if_neg (by rw [hc3]; simp)).symm
abbrev Ja (n : Int) : Ct := ⟨82,[(i6 n)],false,(dB (!(aw n)))⟩
theorem CU (n : Int) : CC (Ja n) := by
 refine ai.vc (V := TT 2 (CC (rj n)∧TT 3 ((!(aw n)) = (!(aw n))∧True))) (.w 1 [(1,(rj n).O)] <| .e) Try.func82 rfl rfl rfl (by kernel_rfl) ?_
 exact tt ⟨(cY n),tt ⟨rfl,oK⟩⟩
abbrev Jb (ws : List Int) : Ct := ⟨57,[(LI ws),(.fn (.func 82) [] [])],false,(i6 (qn 0 ws))⟩
abbrev o6 (ws : List Int) : Lp (Nat) := pT [0,1,7,8] 0 (fun (k : Nat) => ⟨[(0,(LI ws)),(1,(.fn (.func 82) [] [])),(7,(i6 (ws.length : Int))),(8,(i6 (k : Int)))],[]⟩) (fun (k : Nat) => k ≤ ws.length∧qn k (ws.drop k) = qn 0 ws) (fun (k : Nat) => ws.length - k)
theorem CV (ws : List Int) (hl : ws.length ≤ 9223372036854775807) : CC (Jb ws) := by
 refine ai.vc (V := TT 4 (GO (o6 ws) 0 (∀ k,(o6 ws).inv k → TT 1 (CD ((k : Int) < (ws.length : Int)) (TT 5 (IX (k : Int) ws.length∧TT 1 (CC (Ja (ws.getD k 0))∧CB (!(aw (ws.getD k 0))) (TT 3 ((k : Int) = (qn 0 ws)∧True)) (W6 ((k + 1 : Nat) : Int)∧TT 1 (AG (o6 ws) k (k + 1)))))) (TT 2 ((-1) = (qn 0 ws)∧True)))))) (.l (o6 ws) 0 (fun k => .b 9 (.w 4 [(5,(Ja (ws.getD k 0)).O)] <| .b 16 (.e) (.w 6 [(0,.val (i6 ((k + 1 : Nat) : Int)))] <| .e)) (.e))) Try.func57 rfl rfl rfl (by kernel_rfl) ?_
 refine tt ⟨rfl,⟨by omega,by rw [List.drop_zero]⟩,?_⟩
 intro k hinv
 obtain ⟨hk,hx⟩ := hinv
 refine tt (cd (fun hc9 => ?_) (fun hc9 => ?_))
 · refine tt ⟨ix,tt ⟨(CU (ws.getD k 0)),⟨fun hc16 => ?_,fun hc16 => ?_⟩⟩⟩
   · refine tt ⟨?_,oK⟩
     rw [← hx,uC (show k < ws.length by omega),if_neg (by simpa using hc16)]
   · refine ⟨w6,tt ⟨(k + 1),rfl,?_,(?_ : ws.length - (k + 1) < ws.length - k)⟩⟩
     · refine ⟨by omega,?_⟩
       rw [← hx,uC (show k < ws.length by omega),if_pos (by simpa using hc16)]
     · omega
 · refine tt ⟨?_,oK⟩
   rw [← hx,List.drop_of_length_le (by omega)]; rfl
abbrev EY (ws : List Int) : Ct := ⟨47,[(LI ws),(.fn (.func 82) [] [])],false,(dB (!(ws.all aw)))⟩
theorem iM (ws : List Int) (hl : ws.length ≤ 9223372036854775807) : CC (EY ws) := by
 refine ai.vc (V := TT 3 (CC (Jb ws)∧TT 3 ((decide ((qn 0 ws) ≥ 0)) = (!(ws.all aw))∧True))) (.w 1 [(2,(Jb ws).O)] <| .e) Try.func47 rfl rfl rfl (by kernel_rfl) ?_
 refine tt ⟨(CV ws om),tt ⟨?_,oK⟩⟩
 rw [← uB ws 0]
abbrev Kc (ws xs : List Int) (k w : Int) : Ct := ⟨84,[(.agg [(LI ws),(LI xs),(i6 k),(i6 w)])],false,(i6 (ws.getD 0 0))⟩
theorem CW (ws xs : List Int) (k w : Int) (hl : ws.length = 1) (hf : ws.all aw = true) : CC (Kc ws xs k w) := by
 have f0 : 0 < ws.length → 1 ≤ ws.getD 0 0∧ws.getD 0 0 ≤ 8 := fun h => av hf h
 have f1 : 1 < ws.length → 1 ≤ ws.getD 1 0∧ws.getD 1 0 ≤ 8 := fun h => av hf h
 have f2 : 2 < ws.length → 1 ≤ ws.getD 2 0∧ws.getD 2 0 ≤ 8 := fun h => av hf h
 refine ai.vc (V := TT 4 (IX 0 ws.length∧TT 3 ((ws.getD 0 0) = (ws.getD 0 0)∧True))) (.e) Try.func84 rfl rfl rfl (by kernel_rfl) ?_
 exact tt ⟨ix,tt ⟨rfl,oK⟩⟩
abbrev Jc (ws xs : List Int) (k w : Int) : Ct := ⟨87,[(.agg [(LI ws),(LI xs),(i6 k),(i6 w)])],false,(i6 (cX ws))⟩
theorem jq (ws xs : List Int) (k w : Int) (hl : ws.length = 2) (hf : ws.all aw = true) : CC (Jc ws xs k w) := by
 have f0 : 0 < ws.length → 1 ≤ ws.getD 0 0∧ws.getD 0 0 ≤ 8 := fun h => av hf h
 have f1 : 1 < ws.length → 1 ≤ ws.getD 1 0∧ws.getD 1 0 ≤ 8 := fun h => av hf h
 have f2 : 2 < ws.length → 1 ≤ ws.getD 2 0∧ws.getD 2 0 ≤ 8 := fun h => av hf h
 refine ai.vc (V := TT 4 (IX 0 ws.length∧TT 3 (IX 1 ws.length∧TT 2 (CN ((ws.getD 0 0) = (ws.getD 1 0)) (TT 2 ((0 : Int) = (cX ws)∧True)) (TT 2 (IX 0 ws.length∧TT 3 ((ws.getD 0 0) = (cX ws)∧True))))))) (.b 11 (.e) (.e)) Try.func87 rfl rfl rfl (by kernel_rfl) ?_
 refine tt ⟨ix,tt ⟨ix,tt (cn (fun hc11 => ?_) (fun hc11 => ?_))⟩⟩
 · refine tt ⟨?_,oK⟩
   first | exact (if_pos (by simpa using hc11)).symm | exact (if_neg (by simpa using hc11)).symm
 · refine tt ⟨ix,tt ⟨?_,oK⟩⟩
   first | exact (if_pos (by simpa using hc11)).symm | exact (if_neg (by simpa using hc11)).symm
abbrev Kd (ws xs : List Int) (k w : Int) : Ct := ⟨93,[(.agg [(LI ws),(LI xs),(i6 k),(i6 w)])],false,(i6 (min (cX ws) 1))⟩
theorem CX (ws xs : List Int) (k w : Int) (hl : ws.length = 2) (hf : ws.all aw = true) : CC (Kd ws xs k w) := by
 have f0 : 0 < ws.length → 1 ≤ ws.getD 0 0∧ws.getD 0 0 ≤ 8 := fun h => av hf h
 have f1 : 1 < ws.length → 1 ≤ ws.getD 1 0∧ws.getD 1 0 ≤ 8 := fun h => av hf h
 have f2 : 2 < ws.length → 1 ≤ ws.getD 2 0∧ws.getD 2 0 ≤ 8 := fun h => av hf h
 refine ai.vc (V := TT 3 (CC (Jc ws xs k w)∧(True∧(gw (cX ws) 1) = (min (cX ws) 1))∧TT 2 ((min (cX ws) 1) = (min (cX ws) 1)∧True))) (.w 1 [(1,(Jc ws xs k w).O),(2,.val (i6 (min (cX ws) 1)))] <| .e) Try.func93 rfl rfl rfl (by kernel_rfl) ?_
 exact tt ⟨(jq ws xs k w om hf),⟨⟨oK,(by unfold gw; split <;> omega)⟩,tt ⟨rfl,oK⟩⟩⟩
abbrev Ke (ws xs : List Int) (k w : Int) : Ct := ⟨97,[(.agg [(LI ws),(LI xs),(i6 k),(i6 w)])],false,(i6 (if aw w = false ∨ k < 0 ∨ ak w < k then 0 else w))⟩
theorem Bh (ws xs : List Int) (k w : Int) (hl : ws.length = 0) (hf : ws.all aw = true) : CC (Ke ws xs k w) := by
 have f0 : 0 < ws.length → 1 ≤ ws.getD 0 0∧ws.getD 0 0 ≤ 8 := fun h => av hf h
 have f1 : 1 < ws.length → 1 ≤ ws.getD 1 0∧ws.getD 1 0 ≤ 8 := fun h => av hf h
 have f2 : 2 < ws.length → 1 ≤ ws.getD 2 0∧ws.getD 2 0 ≤ 8 := fun h => av hf h
 refine ai.vc (V := TT 2 (CS ((aw w) = true) (CS (k < 0) (TT 2 (CC (rj w)∧TT 1 ((True∧(!(aw w)) = false)∧TT 4 ((True∧(decide (k < 0)) = true)∧TT 3 ((((0 : Int) = (if aw w = false ∨ k < 0 ∨ ak w < k then 0 else w)))∧True))))) (TT 2 (CC (rj w)∧TT 1 ((True∧(!(aw w)) = false)∧TT 4 ((True∧(decide (k < 0)) = false)∧TT 4 (CC (EX w)∧TT 2 (CD (k > (ak w)) (TT 2 ((((0 : Int) = (if aw w = false ∨ k < 0 ∨ ak w < k then 0 else w)))∧True)) (TT 4 (((w = (if aw w = false ∨ k < 0 ∨ ak w < k then 0 else w)))∧True))))))))) (TT 2 (CC (rj w)∧TT 1 ((True∧(!(aw w)) = true)∧TT 5 ((((0 : Int) = (if aw w = false ∨ k < 0 ∨ ak w < k then 0 else w)))∧True)))))) (.s 1 ((aw w) = true) (.s 1 (k < 0) (.w 1 [(2,(rj w).O),(4,.val (dB false)),(9,.val (dB true))] <| .e) (.w 1 [(2,(rj w).O),(4,.val (dB false)),(9,.val (dB false)),(14,(EX w).O)] <| .b 19 (.e) (.e))) (.w 1 [(2,(rj w).O),(4,.val (dB true))] <| .e)) Try.func97 rfl rfl rfl (by kernel_rfl) ?_
 refine tt ⟨fun hs0 => ?_,fun hs0 => ?_⟩
 · refine ⟨fun hs1 => ?_,fun hs1 => ?_⟩
   · refine tt ⟨(cY w),tt ⟨(mF hs0),tt ⟨(vT hs1),tt ⟨?_,oK⟩⟩⟩⟩
     first | exact (if_pos (by first | assumption | omega)).symm | exact (if_neg (by first | assumption | omega)).symm | (split <;> first | rfl | omega | (simp_all; done) | (simp_all; omega))
   · refine tt ⟨(cY w),tt ⟨(mF hs0),tt ⟨(vF hs1),tt ⟨(rJ w),tt (cd (fun hc19 => ?_) (fun hc19 => ?_))⟩⟩⟩⟩
     · refine tt ⟨?_,oK⟩
       first | exact (if_pos (by first | assumption | omega)).symm | exact (if_neg (by first | assumption | omega)).symm | (split <;> first | rfl | omega | (simp_all; done) | (simp_all; omega))
     · refine tt ⟨?_,oK⟩
       first | exact (if_pos (by first | assumption | omega)).symm | exact (if_neg (by first | assumption | omega)).symm | (split <;> first | rfl | omega | (simp_all; done) | (simp_all; omega))
 · refine tt ⟨(cY w),tt ⟨(mT hs0),tt ⟨?_,oK⟩⟩⟩
   first | exact (if_pos (by first | assumption | omega)).symm | exact (if_neg (by first | assumption | omega)).symm | (split <;> first | rfl | omega | (simp_all; done) | (simp_all; omega))
abbrev Kf (ws xs : List Int) (k w : Int) : Ct := ⟨99,[(.agg [(LI ws),(LI xs),(i6 k),(i6 w)])],false,(i6 (if ws.getD 0 0 ≠ 1 ∨ ws.getD 1 0 ≠ ws.getD 2 0 then 0 else ws.getD 1 0))⟩
theorem EZ (ws xs : List Int) (k w : Int) (hl : ws.length = 3) (hf : ws.all aw = true) : CC (Kf ws xs k w) := by
 have f0 : 0 < ws.length → 1 ≤ ws.getD 0 0∧ws.getD 0 0 ≤ 8 := fun h => av hf h
 have f1 : 1 < ws.length → 1 ≤ ws.getD 1 0∧ws.getD 1 0 ≤ 8 := fun h => av hf h
 have f2 : 2 < ws.length → 1 ≤ ws.getD 2 0∧ws.getD 2 0 ≤ 8 := fun h => av hf h
 refine ai.vc (V := TT 2 (CS ((ws.getD 0 0) = 1) (TT 2 (IX 0 ws.length∧TT 2 ((True∧(!decide ((ws.getD 0 0) = 1)) = false)∧TT 2 (IX 1 ws.length∧TT 3 (IX 2 ws.length∧TT 3 (CN ((ws.getD 1 0) = (ws.getD 2 0)) (TT 2 ((((0 : Int) = (if ws.getD 0 0 ≠ 1 ∨ ws.getD 1 0 ≠ ws.getD 2 0 then 0 else ws.getD 1 0)))∧True)) (TT 2 (IX 1 ws.length∧TT 3 ((((ws.getD 1 0) = (if ws.getD 0 0 ≠ 1 ∨ ws.getD 1 0 ≠ ws.getD 2 0 then 0 else ws.getD 1 0)))∧True))))))))) (TT 2 (IX 0 ws.length∧TT 2 ((True∧(!decide ((ws.getD 0 0) = 1)) = true)∧TT 3 ((((0 : Int) = (if ws.getD 0 0 ≠ 1 ∨ ws.getD 1 0 ≠ ws.getD 2 0 then 0 else ws.getD 1 0)))∧True)))))) (.s 1 ((ws.getD 0 0) = 1) (.w 1 [(5,.val (dB false))] <| .b 18 (.e) (.e)) (.w 1 [(5,.val (dB true))] <| .e)) Try.func99 rfl rfl rfl (by kernel_rfl) ?_
 refine tt ⟨fun hs0 => ?_,fun hs0 => ?_⟩
 · refine tt ⟨ix,tt ⟨(nF hs0),tt ⟨ix,tt ⟨ix,tt (cn (fun hc18 => ?_) (fun hc18 => ?_))⟩⟩⟩⟩
   · refine tt ⟨?_,oK⟩
     first | exact (if_pos (by first | assumption | omega)).symm | exact (if_neg (by first | assumption | omega)).symm | (split <;> first | rfl | omega | (simp_all; done) | (simp_all; omega))
   · refine tt ⟨ix,tt ⟨?_,oK⟩⟩
     first | exact (if_pos (by first | assumption | omega)).symm | exact (if_neg (by first | assumption | omega)).symm | (split <;> first | rfl | omega | (simp_all; done) | (simp_all; omega))
 · refine tt ⟨ix,tt ⟨(nT hs0),tt ⟨?_,oK⟩⟩⟩
   first | exact (if_pos (by first | assumption | omega)).symm | exact (if_neg (by first | assumption | omega)).symm | (split <;> first | rfl | omega | (simp_all; done) | (simp_all; omega))
abbrev Jd (ws xs : List Int) (k w : Int) : Ct := ⟨101,[(.agg [(LI ws),(LI xs),(i6 k),(i6 w)])],false,(i6 (ws.getD 0 0 + ws.getD 1 0))⟩
theorem E1 (ws xs : List Int) (k w : Int) (hl : ws.length = 2) (hf : ws.all aw = true) : CC (Jd ws xs k w) := by
 have f0 : 0 < ws.length → 1 ≤ ws.getD 0 0∧ws.getD 0 0 ≤ 8 := fun h => av hf h
 have f1 : 1 < ws.length → 1 ≤ ws.getD 1 0∧ws.getD 1 0 ≤ 8 := fun h => av hf h
 have f2 : 2 < ws.length → 1 ≤ ws.getD 2 0∧ws.getD 2 0 ≤ 8 := fun h => av hf h
 refine ai.vc (V := TT 4 (IX 0 ws.length∧TT 3 (IX 1 ws.length∧TT 1 (W6 ((ws.getD 0 0) + (ws.getD 1 0))∧TT 2 (((ws.getD 0 0) + (ws.getD 1 0)) = (ws.getD 0 0 + ws.getD 1 0)∧True))))) (.w 1 [(8,.val (i6 ((ws.getD 0 0) + (ws.getD 1 0))))] <| .e) Try.func101 rfl rfl rfl (by kernel_rfl) ?_
 refine tt ⟨ix,tt ⟨ix,tt ⟨w6,tt ⟨?_,oK⟩⟩⟩⟩
 first | rfl | omega | (simp; first | done | omega)
abbrev Je (ws xs : List Int) (k w : Int) : Ct := ⟨103,[(.agg [(LI ws),(LI xs),(i6 k),(i6 w)])],false,(i6 (if aw w = false ∨ k < 0 ∨ ws.getD 0 0 - w < k then 0 else w))⟩
theorem Bi (ws xs : List Int) (k w : Int) (hl : ws.length = 1) (hf : ws.all aw = true) : CC (Je ws xs k w) := by
 have f0 : 0 < ws.length → 1 ≤ ws.getD 0 0∧ws.getD 0 0 ≤ 8 := fun h => av hf h
 have f1 : 1 < ws.length → 1 ≤ ws.getD 1 0∧ws.getD 1 0 ≤ 8 := fun h => av hf h
 have f2 : 2 < ws.length → 1 ≤ ws.getD 2 0∧ws.getD 2 0 ≤ 8 := fun h => av hf h
 refine ai.vc (V := TT 2 (CS ((aw w) = true) (CS (k < 0) (TT 2 (CC (rj w)∧TT 1 ((True∧(!(aw w)) = false)∧TT 4 ((True∧(decide (k < 0)) = true)∧TT 3 ((((0 : Int) = (if aw w = false ∨ k < 0 ∨ ws.getD 0 0 - w < k then 0 else w)))∧True))))) (TT 2 (CC (rj w)∧TT 1 ((True∧(!(aw w)) = false)∧TT 4 ((True∧(decide (k < 0)) = false)∧TT 4 (IX 0 ws.length∧TT 3 (W6 ((ws.getD 0 0) - w)∧TT 2 (CD (k > ((ws.getD 0 0) - w)) (TT 2 ((((0 : Int) = (if aw w = false ∨ k < 0 ∨ ws.getD 0 0 - w < k then 0 else w)))∧True)) (TT 4 (((w = (if aw w = false ∨ k < 0 ∨ ws.getD 0 0 - w < k then 0 else w)))∧True)))))))))) (TT 2 (CC (rj w)∧TT 1 ((True∧(!(aw w)) = true)∧TT 5 ((((0 : Int) = (if aw w = false ∨ k < 0 ∨ ws.getD 0 0 - w < k then 0 else w)))∧True)))))) (.s 1 ((aw w) = true) (.s 1 (k < 0) (.w 1 [(2,(rj w).O),(4,.val (dB false)),(9,.val (dB true))] <| .e) (.w 1 [(2,(rj w).O),(4,.val (dB false)),(9,.val (dB false)),(18,.val (i6 ((ws.getD 0 0) - w)))] <| .b 23 (.e) (.e))) (.w 1 [(2,(rj w).O),(4,.val (dB true))] <| .e)) Try.func103 rfl rfl rfl (by kernel_rfl) ?_
 refine tt ⟨fun hs0 => ?_,fun hs0 => ?_⟩
 · refine ⟨fun hs1 => ?_,fun hs1 => ?_⟩
   · refine tt ⟨(cY w),tt ⟨(mF hs0),tt ⟨(vT hs1),tt ⟨?_,oK⟩⟩⟩⟩
     first | exact (if_pos (by first | assumption | omega)).symm | exact (if_neg (by first | assumption | omega)).symm | (split <;> first | rfl | omega | (simp_all; done) | (simp_all; omega))
   · refine tt ⟨(cY w),tt ⟨(mF hs0),tt ⟨(vF hs1),tt ⟨ix,tt ⟨(w6 (by have := dp.1 (show aw w = true by simp_all); omega) (by have := dp.1 (show aw w = true by simp_all); omega)),tt (cd (fun hc23 => ?_) (fun hc23 => ?_))⟩⟩⟩⟩⟩
     · refine tt ⟨?_,oK⟩
       first | exact (if_pos (by first | assumption | omega)).symm | exact (if_neg (by first | assumption | omega)).symm | (split <;> first | rfl | omega | (simp_all; done) | (simp_all; omega))
     · refine tt ⟨?_,oK⟩
       first | exact (if_pos (by first | assumption | omega)).symm | exact (if_neg (by first | assumption | omega)).symm | (split <;> first | rfl | omega | (simp_all; done) | (simp_all; omega))
 · refine tt ⟨(cY w),tt ⟨(mT hs0),tt ⟨?_,oK⟩⟩⟩
   first | exact (if_pos (by first | assumption | omega)).symm | exact (if_neg (by first | assumption | omega)).symm | (split <;> first | rfl | omega | (simp_all; done) | (simp_all; omega))
abbrev Jf (ws xs : List Int) (k w : Int) : Ct := ⟨105,[(.agg [(LI ws),(LI xs),(i6 k),(i6 w)])],false,(i6 (if w < ws.getD 0 0 then 0 else w))⟩
theorem E3 (ws xs : List Int) (k w : Int) (hl : ws.length = 1) (hf : ws.all aw = true) : CC (Jf ws xs k w) := by
 have f0 : 0 < ws.length → 1 ≤ ws.getD 0 0∧ws.getD 0 0 ≤ 8 := fun h => av hf h
 have f1 : 1 < ws.length → 1 ≤ ws.getD 1 0∧ws.getD 1 0 ≤ 8 := fun h => av hf h
 have f2 : 2 < ws.length → 1 ≤ ws.getD 2 0∧ws.getD 2 0 ≤ 8 := fun h => av hf h
 refine ai.vc (V := TT 6 (IX 0 ws.length∧TT 2 (CD (w < (ws.getD 0 0)) (TT 2 ((0 : Int) = (if w < ws.getD 0 0 then 0 else w)∧True)) (TT 4 (w = (if w < ws.getD 0 0 then 0 else w)∧True))))) (.b 9 (.e) (.e)) Try.func105 rfl rfl rfl (by kernel_rfl) ?_
 refine tt ⟨ix,tt (cd (fun hc9 => ?_) (fun hc9 => ?_))⟩
 · refine tt ⟨?_,oK⟩
   first | exact (if_pos (by first | assumption | omega)).symm | exact (if_neg (by first | assumption | omega)).symm | (split <;> first | rfl | omega | (simp_all; done) | (simp_all; omega))
 · refine tt ⟨?_,oK⟩
   first | exact (if_pos (by first | assumption | omega)).symm | exact (if_neg (by first | assumption | omega)).symm | (split <;> first | rfl | omega | (simp_all; done) | (simp_all; omega))
end Go.Proofs.Ytckgpflobhpnpaa
