/-
  Package network: copies of slices, values.
-/
import Derived.Test.YtnlmlkbaflmgcaaQPrB
import Derived.WalkKit
namespace Go.Proofs.Ytnlmlkbaflmgcaa
open Go.RowKit
set_option linter.unusedVariables false
set_option linter.unusedSimpArgs false
abbrev z7 : aC := (.arr 3 1 (aa .i64) 0 ([] : List Int))
set_option maxRecDepth 100000
abbrev Kk (l : List Int) : Fr := ⟨63,[(LI l)],(.own 0),(.arr 3 1 (aa .i64) 0 l)⟩
theorem yF (l : List Int) (h : l ≠ []) (hl : l.length ≤ 137438953472) : CO (Kk l) := by
 refine ap.vcO (V := TT 2 (l ≠ []∧am [] (([] : List Int).map (aa .i64))∧TT 1 ((([] : List Int).length + (l.map (aa .i64)).length ≤ 137438953472∧([] : List Int).map (aa .i64) ++ l.map (aa .i64) = l.map (aa .i64))∧TT 2 (((.own 0) : D) = .own 0∧((.arr 3 1 (aa .i64) 0 l) : aC) = (.arr 3 1 (aa .i64) 0 l))))) (.w 3 [(0,.box 3 1 (aa .i64) 0 ([] : List Int)),(2,.box 3 1 (aa .i64) 0 l)] <| .e) Try.func63 rfl rfl rfl (by kernel_rfl) ?_
 exact tt ⟨(by exact h),⟨oK,tt ⟨⟨by simp only [List.length_map,List.length_nil]; omega,by simp⟩,tt ⟨rfl,rfl⟩⟩⟩⟩
abbrev Kl : Fr := ⟨63,[.nils],(.own 0),z7⟩
theorem yG  : CO Kl := by
 refine ap.vcO (V := TT 5 (((.own 0) : D) = .own 0∧([] : List Int) = [])) (.e) Try.func63 rfl rfl rfl (by kernel_rfl) ?_
 refine tt ⟨rfl,?_⟩
 rfl
abbrev Km : Fr := ⟨63,[(.v .esl)],(.own 0),z7⟩
theorem yH  : CO Km := by
 refine ap.vcO (V := TT 3 (am [] (([] : List Int).map (aa .i64))∧TT 1 ((([] : List Int).length + (([] : List (List V))).length ≤ 137438953472∧([] : List Int).map (aa .i64) ++ ([] : List (List V)) = ([] : List Int).map (aa .i64))∧TT 2 (((.own 0) : D) = .own 0∧(z7 : aC) = z7)))) (.w 3 [(0,.box 3 1 (aa .i64) 0 ([] : List Int)),(2,.box 3 1 (aa .i64) 0 ([] : List Int))] <| .e) Try.func63 rfl rfl rfl (by kernel_rfl) ?_
 exact tt ⟨oK,tt ⟨⟨by simp,by simp⟩,tt ⟨rfl,rfl⟩⟩⟩
abbrev Kn (l : List Int) : Fr := ⟨63,[(LI l)],(.own 0),(.arr 3 1 (aa .i64) 0 l)⟩
theorem Bz (l : List Int) (hl : l.length ≤ 137438953472) : CO (Kn l) :=
  ap.nilcases (fun h => yF l h hl) (fun h => by subst h; exact yG) (fun h => by subst h; exact yH)
abbrev Ko (v w : Int) : Ct := ⟨75,[(i6 v),(.iptr [(.int .i64 w)] 0)],false,(dB (!(ef v w)))⟩
theorem yI (v w : Int) (h0 : 0 ≤ w) (h6 : w ≤ 62) : CC (Ko v w) := by
 refine ap.vc (V := TT 1 (CS (v < 0) (TT 2 ((True∧(decide (v < 0)) = true)∧TT 7 (true = (!(ef v w))∧True))) (TT 2 ((True∧(decide (v < 0)) = false)∧TT 2 (SH w∧TT 4 ((decide (v ≥ (2 ^ w.toNat))) = (!(ef v w))∧True)))))) (.s 1 (v < 0) (.w 1 [(2,.val (dB true))] <| .e) (.w 1 [(2,.val (dB false)),(5,.val (i6 (2 ^ w.toNat)))] <| .e)) Try.func75 rfl rfl rfl (by kernel_rfl) ?_
 refine tt ⟨fun hs0 => ?_,fun hs0 => ?_⟩
 · refine tt ⟨(vT hs0),tt ⟨?_,oK⟩⟩
   first | (unfold ef; rw [decide_eq_false (by omega)]; rfl) | (unfold ef; rw [decide_eq_true (show (0 : Int) ≤ v by omega),cJ h0 h6,Bool.true_and]; by_cases hq : v < 2 ^ w.toNat <;> first | (rw [decide_eq_false (by omega),decide_eq_true (by omega)]; rfl) | (rw [decide_eq_true (by omega),decide_eq_false (by omega)]; rfl))
 · refine tt ⟨(vF hs0),tt ⟨(sh (by have := kf (n := w.toNat) (by omega); omega) (by have := kf (n := w.toNat) (by omega); omega)),tt ⟨?_,oK⟩⟩⟩
   first | (unfold ef; rw [decide_eq_false (by omega)]; rfl) | (unfold ef; rw [decide_eq_true (show (0 : Int) ≤ v by omega),cJ h0 h6,Bool.true_and]; by_cases hq : v < 2 ^ w.toNat <;> first | (rw [decide_eq_false (by omega),decide_eq_true (by omega)]; rfl) | (rw [decide_eq_true (by omega),decide_eq_false (by omega)]; rfl))
abbrev HC (l : List Int) (w : Int) : Ct := ⟨88,[(LI l),(.fn (.func 75) [] [(.iptr [(.int .i64 w)] 0)])],false,(i6 (vy l w))⟩
abbrev vA (l : List Int) (w : Int) : Lp (Nat) := gZ [0,1,7,8] 0 (fun (i : Nat) => ⟨[(0,(LI l)),(1,(.fn (.func 75) [] [(.iptr [(.int .i64 w)] 0)])),(7,(i6 (l.length : Int))),(8,(i6 (i : Int)))],[]⟩) (fun (i : Nat) => i ≤ l.length∧∀ z,z < i → (!ef (l.getD z 0) w) = false) (fun (i : Nat) => l.length - i)
theorem HD (l : List Int) (w : Int) (h0 : 0 ≤ w) (h6 : w ≤ 62) (hl : l.length ≤ 9223372036854775807) : CC (HC l w) := by
 refine ap.vc (V := TT 4 (GO (vA l w) 0 (∀ i,(vA l w).inv i → TT 1 (CD ((i : Int) < (l.length : Int)) (TT 5 (IX (i : Int) l.length∧TT 1 (CC (Ko (l.getD i 0) w)∧CB (!(ef (l.getD i 0) w)) (TT 3 ((i : Int) = (vy l w)∧True)) (W6 ((i + 1 : Nat) : Int)∧TT 1 (AG (vA l w) i (i + 1)))))) (TT 2 ((-1) = (vy l w)∧True)))))) (.l (vA l w) 0 (fun i => .b 9 (.w 4 [(5,(Ko (l.getD i 0) w).O)] <| .b 16 (.e) (.w 6 [(0,.val (i6 ((i + 1 : Nat) : Int)))] <| .e)) (.e))) Try.func88 rfl rfl rfl (by kernel_rfl) ?_
 refine tt ⟨rfl,⟨by omega,fun z hz => by omega⟩,?_⟩
 intro i hinv
 obtain ⟨hi,h3⟩ := hinv
 refine tt (cd (fun hc9 => ?_) (fun hc9 => ?_))
 · refine tt ⟨ix,tt ⟨(yI (l.getD i 0) w om om),⟨fun hc16 => ?_,fun hc16 => ?_⟩⟩⟩
   · refine tt ⟨?_,oK⟩
     first | exact (cC (f := fun i => !ef (l.getD i 0) w) hc16 h3 (by omega)).symm | exact (dT (f := fun i => !ef (l.getD i 0) w) (fun z hz => h3 z (by omega))).symm
   · refine ⟨w6,tt ⟨(i + 1),rfl,?_,(?_ : l.length - (i + 1) < l.length - i)⟩⟩
     · exact ⟨by omega,bf h3 hc16⟩
     · omega
 · refine tt ⟨?_,oK⟩
   first | exact (cC (f := fun i => !ef (l.getD i 0) w) hc16 h3 (by omega)).symm | exact (dT (f := fun i => !ef (l.getD i 0) w) (fun z hz => h3 z (by omega))).symm
abbrev HE (l : List Int) (w : Int) : Ct := ⟨74,[(LI l),(.fn (.func 75) [] [(.iptr [(.int .i64 w)] 0)])],false,(dB (decide (0 ≤ vy l w)))⟩
theorem HF (l : List Int) (w : Int) (h0 : 0 ≤ w) (h6 : w ≤ 62) (hl : l.length ≤ 9223372036854775807) : CC (HE l w) := by
 refine ap.vc (V := TT 3 (CC (HC l w)∧TT 3 ((decide ((vy l w) ≥ 0)) = (decide (0 ≤ vy l w))∧True))) (.w 1 [(2,(HC l w).O)] <| .e) Try.func74 rfl rfl rfl (by kernel_rfl) ?_
 refine tt ⟨(HD l w om om om),tt ⟨?_,oK⟩⟩
 rfl
abbrev DH (l : List Int) (w : Int) : Ct := ⟨46,[(LI l),(i6 w)],false,(dB (eJ l w))⟩
theorem jj (l : List Int) (w : Int) (h0 : 0 ≤ w) (h6 : w ≤ 62) (hl : l.length ≤ 9223372036854775807) : CC (DH l w) := by
 refine ap.vc (V := TT 4 (CK (HE l w)∧TT 3 ((!(decide (0 ≤ vy l w))) = (eJ l w)∧True))) (.w 1 [(2,(HE l w).O')] <| .e) Try.func46 rfl rfl rfl (by kernel_rfl) ?_
 refine tt ⟨⟨jh _ rfl,(HF l w om om om)⟩,tt ⟨?_,oK⟩⟩
 exact Bw
end Go.Proofs.Ytnlmlkbaflmgcaa
