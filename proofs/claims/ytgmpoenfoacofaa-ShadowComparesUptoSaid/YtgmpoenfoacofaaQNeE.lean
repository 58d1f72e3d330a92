/-
  Package network: copies of slices, values.
-/
import Derived.Test.YtgmpoenfoacofaaQPrB
import Derived.Test.YtgmpoenfoacofaaQNeF
import Derived.Test.YtgmpoenfoacofaaQGrw
namespace Go.Proofs.Ytgmpoenfoacofaa
open Go.RowKit
set_option linter.unusedVariables false
set_option linter.unusedSimpArgs false
abbrev rD : am := (.arr 38 1 ax [] ([] : List (List Int)))
set_option maxRecDepth 100000
abbrev yM (l : List Ps) : rt := ⟨67,[(dL 2 b5 e8 l)],(.own 0),(.arr 88 2 b5 e8 l)⟩
theorem qz (l : List Ps) (h : l ≠ []) (hl : l.length ≤ 137438953472) : CO (yM l) := by
 refine ai.vcO (V := TT 2 (l ≠ []∧ak [] (([] : List Ps).map b5)∧TT 1 ((([] : List Ps).length + (l.map b5).length ≤ 137438953472∧([] : List Ps).map b5 ++ l.map b5 = l.map b5)∧TT 2 (((.own 0) : D) = .own 0∧((.arr 88 2 b5 e8 l) : am) = (.arr 88 2 b5 e8 l))))) (.w 3 [(0,.box 88 2 b5 e8 ([] : List Ps)),(2,.box 88 2 b5 e8 l)] <| .e) Try.func67 rfl rfl rfl (by kernel_rfl) ?_
 exact tt ⟨(by exact h),⟨oK,tt ⟨⟨by simp only [List.length_map,List.length_nil]; omega,by simp⟩,tt ⟨rfl,rfl⟩⟩⟩⟩
abbrev yN : rt := ⟨67,[.nils],(.own 0),(.arr 88 2 b5 e8 ([] : List Ps))⟩
theorem qA  : CO yN := by
 refine ai.vcO (V := TT 5 (((.own 0) : D) = .own 0∧([] : List Ps) = [])) (.e) Try.func67 rfl rfl rfl (by kernel_rfl) ?_
 refine tt ⟨rfl,?_⟩
 rfl
abbrev yO : rt := ⟨67,[(.v .esl)],(.own 0),(.arr 88 2 b5 e8 ([] : List Ps))⟩
theorem qB  : CO yO := by
 refine ai.vcO (V := TT 3 (ak [] (([] : List Ps).map b5)∧TT 1 ((([] : List Ps).length + (([] : List (List V))).length ≤ 137438953472∧([] : List Ps).map b5 ++ ([] : List (List V)) = ([] : List Ps).map b5)∧TT 2 (((.own 0) : D) = .own 0∧((.arr 88 2 b5 e8 ([] : List Ps)) : am) = (.arr 88 2 b5 e8 ([] : List Ps)))))) (.w 3 [(0,.box 88 2 b5 e8 ([] : List Ps)),(2,.box 88 2 b5 e8 ([] : List Ps))] <| .e) Try.func67 rfl rfl rfl (by kernel_rfl) ?_
 exact tt ⟨oK,tt ⟨⟨by simp,by simp⟩,tt ⟨rfl,rfl⟩⟩⟩
abbrev yP (l : List Ps) : rt := ⟨67,[(dL 2 b5 e8 l)],(.own 0),(.arr 88 2 b5 e8 l)⟩
theorem sJ (l : List Ps) (hl : l.length ≤ 137438953472) : CO (yP l) :=
  ai.nilcases (fun h => qz l h hl) (fun h => by subst h; exact qA) (fun h => by subst h; exact qB)
abbrev yQ (l : List (List Int)) : rt := ⟨68,[(dL 1 ax [] l)],(.own 0),(.arr 38 1 ax [] l)⟩
theorem qC (l : List (List Int)) (h : l ≠ []) (hl : l.length ≤ 137438953472) : CO (yQ l) := by
 refine ai.vcO (V := TT 2 (l ≠ []∧ak [] (([] : List (List Int)).map ax)∧TT 1 ((([] : List (List Int)).length + (l.map ax).length ≤ 137438953472∧([] : List (List Int)).map ax ++ l.map ax = l.map ax)∧TT 2 (((.own 0) : D) = .own 0∧((.arr 38 1 ax [] l) : am) = (.arr 38 1 ax [] l))))) (.w 3 [(0,.box 38 1 ax [] ([] : List (List Int))),(2,.box 38 1 ax [] l)] <| .e) Try.func68 rfl rfl rfl (by kernel_rfl) ?_
 exact tt ⟨(by exact h),⟨oK,tt ⟨⟨by simp only [List.length_map,List.length_nil]; omega,by simp⟩,tt ⟨rfl,rfl⟩⟩⟩⟩
abbrev yR : rt := ⟨68,[.nils],(.own 0),rD⟩
theorem qD  : CO yR := by
 refine ai.vcO (V := TT 5 (((.own 0) : D) = .own 0∧([] : List (List Int)) = [])) (.e) Try.func68 rfl rfl rfl (by kernel_rfl) ?_
 refine tt ⟨rfl,?_⟩
 rfl
abbrev yS : rt := ⟨68,[(.v .esl)],(.own 0),rD⟩
theorem qE  : CO yS := by
 refine ai.vcO (V := TT 3 (ak [] (([] : List (List Int)).map ax)∧TT 1 ((([] : List (List Int)).length + (([] : List (List V))).length ≤ 137438953472∧([] : List (List Int)).map ax ++ ([] : List (List V)) = ([] : List (List Int)).map ax)∧TT 2 (((.own 0) : D) = .own 0∧(rD : am) = rD)))) (.w 3 [(0,.box 38 1 ax [] ([] : List (List Int))),(2,.box 38 1 ax [] ([] : List (List Int)))] <| .e) Try.func68 rfl rfl rfl (by kernel_rfl) ?_
 exact tt ⟨oK,tt ⟨⟨by simp,by simp⟩,tt ⟨rfl,rfl⟩⟩⟩
abbrev yT (l : List (List Int)) : rt := ⟨68,[(dL 1 ax [] l)],(.own 0),(.arr 38 1 ax [] l)⟩
theorem sK (l : List (List Int)) (hl : l.length ≤ 137438953472) : CO (yT l) :=
  ai.nilcases (fun h => qC l h hl) (fun h => by subst h; exact qD) (fun h => by subst h; exact qE)
set_option maxHeartbeats 1600000 in
theorem qF (n : Nat) (hn : n ≤ 137438953472) (w : World) : Calls Try.prog 77 #[.slice none 0 0,.int .i64 (n : Int)] w (fun e w' => ∃ v,e = .returned v∧w'.ownsRow 0 3 1 v 0 []∧w.grownBy w' none∧∀ b,aj v = some b → w.heap.size ≤ b) := by
  by_cases h0 : n = 0
  · subst h0
    go_enter Try.func77,Try.ntmps77
    go_wp2
    go_ret
    exact ⟨_,rfl,World.ownsRow_nil _ 0 _ _,gF w,fun b hb => by simp [aj] at hb⟩
  · have hp : 0 < n := by omega
    have e1 : IntKind.i64.wrap ((n : Int) - (0 - 0)) = (n : Int) := tA rfl (by omega) (by omega)
    have e0 : ¬ ((n : Int) < 0) := by omega
    have e2 : (n : Int) > 0 := by omega
    have hb8 : Try.t3.bytes = 8 := rfl
    have hnx : Builtin.nextslicecap n 0 = n := nextslicecap_zero hp
    go_enter Try.func77,Try.ntmps77
    go_wp2
    all_goals try (exfalso; simp only [hb8,hnx] at *; omega)
    go_ret
    have hK : n ≤ grownCap w n 0 3∧grownCap w n 0 3 ≤ maxLen := ⟨grownCap_ge ..,grownCap_le_maxLen _ _ _ _ (by unfold maxLen; omega)⟩
    refine ⟨_,rfl,World.ownsRow_made w (Builtin.zeroCells #[Value.int IntKind.i64 0] n ++ Builtin.zeroCells #[Value.int IntKind.i64 0] (grownCap w n 0 3 - n)) (grownCap w n 0 3) (Nat.zero_le _) hK.2 ?_,⟨rfl,rfl,rfl,?_,fun k hk _ => ?_⟩,fun b hb => ?_⟩
    · simp [Builtin.zeroCells]; omega
    · simp
    · exact Below.heap_alloc w _ k hk
    · simp [aj] at hb; omega
abbrev yU (n : Nat) : rt := ⟨77,[.nils,(i6 (n : Int))],.own 0,.arr 3 1 (af .i64) 0 []⟩
theorem vC (n : Nat) (hn : n ≤ 137438953472) : CO (yU n) := by
  refine ai.of_empty (fun S μ w us hu => ?_)
  obtain ⟨h1,h2⟩ := hu
  have h0 : us = #[us[0]'(by simp at h1; omega),us[1]'(by simp at h1; omega)] := by
    apply Array.ext
    · simpa using h1
    · intro i a b
      simp at h1
      have : i = 0 ∨ i = 1 := by omega
      rcases this with rfl | rfl <;> rfl
  have k0 := h2 0 _ (us[0]'(by simp at h1; omega)) rfl (Array.getElem?_eq_getElem _)
  have k1 := h2 1 _ (us[1]'(by simp at h1; omega)) rfl (Array.getElem?_eq_getElem _)
  rw [h0]
  generalize us[0]'(by simp at h1; omega) = x at k0 ⊢
  generalize us[1]'(by simp at h1; omega) = y at k1 ⊢
  cases k0
  rw [aX k1]
  exact qF n hn w
abbrev yV (ls : List (List Int)) : Ct := ⟨71,[(dL 1 ax [] ls)],false,(LI ls.flatten)⟩
abbrev fW (ls : List (List Int)) : Lp (Nat) := mB [0,3,9,10,11] 0 (fun (i : Nat) => ⟨[(0,(dL 1 ax [] ls)),(3,(i6 (((ls.take i).flatten.length : Nat) : Int))),(9,(dL 1 ax [] ls)),(10,(i6 (ls.length : Int))),(11,(i6 (i : Int)))],[]⟩) (fun (i : Nat) => i ≤ ls.length) (fun (i : Nat) => ls.length - i)
abbrev fY (ls : List (List Int)) : Lp (Nat) := mB [6,25,26,27] 1 (fun (j : Nat) => ⟨[(6,(.own 0)),(25,(dL 1 ax [] ls)),(26,(i6 (ls.length : Int))),(27,(i6 (j : Int)))],[(.arr 3 1 (af .i64) 0 ((ls.take j).flatten))]⟩) (fun (j : Nat) => j ≤ ls.length) (fun (j : Nat) => ls.length - j)
theorem sL (ls : List (List Int)) (h1 : ls.length ≤ 1000000) (h2 : ls.flatten.length ≤ 137438953472) : CC (yV ls) := by
 refine ai.vc (V := TT 5 (GO (fW ls) 0 (∀ i,(fW ls).inv i → TT 1 (CD ((i : Int) < (ls.length : Int)) (IX (i : Int) ls.length∧TT 5 ((True∧(IntKind.wrap .i64 ((((ls.take i).flatten.length : Nat) : Int) + (((ls.getD i []).length : Nat) : Int))) = (((ls.take (i + 1)).flatten.length : Nat) : Int))∧TT 3 ((decide ((((ls.take (i + 1)).flatten.length : Nat) : Int) < 0)) = false∧W6 ((i + 1 : Nat) : Int)∧TT 1 (AG (fW ls) i (i + 1))))) (TT 1 (CO (yU ((ls.take i).flatten.length))∧TT 4 (GO (fY ls) 0 (∀ j,(fY ls).inv j → TT 1 (CD ((j : Int) < (ls.length : Int)) (IX (j : Int) ls.length∧TT 4 ((((ls.take j).flatten).length + ((ls.getD j []).map (af .i64)).length ≤ 137438953472∧((ls.take j).flatten).map (af .i64) ++ (ls.getD j []).map (af .i64) = ((ls.take (j + 1)).flatten).map (af .i64))∧TT 1 (W6 ((j + 1 : Nat) : Int)∧TT 1 (AG (fY ls) j (j + 1))))) (TT 3 (((ls.take j).flatten).map (af .i64) = ls.flatten.map (af .i64)∧((∀ z ∈ ls.flatten,((af .i64) z).all V.scal = true))))))))))))) (.l (fW ls) 0 (fun i => .b 12 (.w 5 [(3,.val (i6 (((ls.take (i + 1)).flatten.length : Nat) : Int)))] <| .u 20 (.w 8 [(0,.val (i6 ((i + 1 : Nat) : Int)))] <| .e)) (.w 9 [(1,(yU ((ls.take i).flatten.length)).O)] <| .l (fY ls) 0 (fun j => .b 28 (.w 13 [(2,.box 3 1 (af .i64) 0 ((ls.take (j + 1)).flatten))] <| .w 14 [(0,.val (i6 ((j + 1 : Nat) : Int)))] <| .e) (.e))))) Try.func71 rfl rfl rfl (by kernel_rfl) ?_
 refine tt ⟨rfl,(by omega),?_⟩
 intro i hinv
 have hi := hinv
 refine tt (cd (fun hc12 => ?_) (fun hc12 => ?_))
 · have hi1 : i < ls.length := by omega
   have hf := mI hi1
   have hg := nw (ls := ls) (i := i + 1)
   rw [hf,List.length_append] at hg
   refine ⟨ix,tt ⟨⟨oK,(by rw [hf,List.length_append,Int.natCast_add]; exact tA rfl (by omega) (by omega))⟩,tt ⟨(decide_eq_false (by omega)),⟨w6,tt ⟨(i + 1),rfl,(?_ : (i + 1) ≤ ls.length),(?_ : ls.length - (i + 1) < ls.length - i)⟩⟩⟩⟩⟩
   · omega
   · omega
 · have hg := nw (ls := ls) (i := i)
   refine tt ⟨(vC ((ls.take i).flatten.length) om),tt ⟨rfl,(by omega),?_⟩⟩
   intro j hinv
   have hj := hinv
   refine tt (cd (fun hc28 => ?_) (fun hc28 => ?_))
   · have hj1 : j < ls.length := by omega
     have hf := mI hj1
     have hg := nw (ls := ls) (i := j + 1)
     rw [hf,List.length_append] at hg
     refine ⟨ix,tt ⟨⟨by simp only [List.length_map]; omega,by rw [hf,List.map_append]⟩,tt ⟨w6,tt ⟨(j + 1),rfl,(?_ : (j + 1) ≤ ls.length),(?_ : ls.length - (j + 1) < ls.length - j)⟩⟩⟩⟩
     · omega
     · omega
   · refine tt ⟨(congrArg _ (?_ : ((ls.take j).flatten) = ls.flatten)),(fun _ _ => rfl)⟩
     exact ud (by omega)
abbrev yW (v w : Int) : Ct := ⟨66,[(i6 v),(.iptr [(.int .i64 w)] 0)],false,(dB (!(gI v w)))⟩
theorem qG (v w : Int) (h0 : 0 ≤ w) (h6 : w ≤ 62) : CC (yW v w) := by
 refine ai.vc (V := TT 1 (CS (v < 0) (TT 2 ((True∧(decide (v < 0)) = true)∧TT 7 (true = (!(gI v w))∧True))) (TT 2 ((True∧(decide (v < 0)) = false)∧TT 2 (SH w∧TT 4 ((decide (v ≥ (2 ^ w.toNat))) = (!(gI v w))∧True)))))) (.s 1 (v < 0) (.w 1 [(2,.val (dB true))] <| .e) (.w 1 [(2,.val (dB false)),(5,.val (i6 (2 ^ w.toNat)))] <| .e)) Try.func66 rfl rfl rfl (by kernel_rfl) ?_
 refine tt ⟨fun hs0 => ?_,fun hs0 => ?_⟩
 · refine tt ⟨(vT hs0),tt ⟨?_,oK⟩⟩
   first | (unfold gI; rw [decide_eq_false (by omega)]; rfl) | (unfold gI; rw [decide_eq_true (show (0 : Int) ≤ v by omega),fw h0 h6,Bool.true_and]; by_cases hq : v < 2 ^ w.toNat <;> first | (rw [decide_eq_false (by omega),decide_eq_true (by omega)]; rfl) | (rw [decide_eq_true (by omega),decide_eq_false (by omega)]; rfl))
 · refine tt ⟨(vF hs0),tt ⟨(sh (by have := jq (n := w.toNat) (by omega); omega) (by have := jq (n := w.toNat) (by omega); omega)),tt ⟨?_,oK⟩⟩⟩
   first | (unfold gI; rw [decide_eq_false (by omega)]; rfl) | (unfold gI; rw [decide_eq_true (show (0 : Int) ≤ v by omega),fw h0 h6,Bool.true_and]; by_cases hq : v < 2 ^ w.toNat <;> first | (rw [decide_eq_false (by omega),decide_eq_true (by omega)]; rfl) | (rw [decide_eq_true (by omega),decide_eq_false (by omega)]; rfl))
abbrev wS (l : List Int) (w : Int) : Ct := ⟨76,[(LI l),(.fn (.func 66) [] [(.iptr [(.int .i64 w)] 0)])],false,(i6 (nu l w))⟩
abbrev nx (l : List Int) (w : Int) : Lp (Nat) := mB [0,1,7,8] 0 (fun (i : Nat) => ⟨[(0,(LI l)),(1,(.fn (.func 66) [] [(.iptr [(.int .i64 w)] 0)])),(7,(i6 (l.length : Int))),(8,(i6 (i : Int)))],[]⟩) (fun (i : Nat) => i ≤ l.length∧∀ z,z < i → (!gI (l.getD z 0) w) = false) (fun (i : Nat) => l.length - i)
theorem wT (l : List Int) (w : Int) (h0 : 0 ≤ w) (h6 : w ≤ 62) (hl : l.length ≤ 9223372036854775807) : CC (wS l w) := by
 refine ai.vc (V := TT 4 (GO (nx l w) 0 (∀ i,(nx l w).inv i → TT 1 (CD ((i : Int) < (l.length : Int)) (TT 5 (IX (i : Int) l.length∧TT 1 (CC (yW (l.getD i 0) w)∧CB (!(gI (l.getD i 0) w)) (TT 3 ((i : Int) = (nu l w)∧True)) (W6 ((i + 1 : Nat) : Int)∧TT 1 (AG (nx l w) i (i + 1)))))) (TT 2 ((-1) = (nu l w)∧True)))))) (.l (nx l w) 0 (fun i => .b 9 (.w 4 [(5,(yW (l.getD i 0) w).O)] <| .b 16 (.e) (.w 6 [(0,.val (i6 ((i + 1 : Nat) : Int)))] <| .e)) (.e))) Try.func76 rfl rfl rfl (by kernel_rfl) ?_
 refine tt ⟨rfl,⟨by omega,fun z hz => by omega⟩,?_⟩
 intro i hinv
 obtain ⟨hi,h3⟩ := hinv
 refine tt (cd (fun hc9 => ?_) (fun hc9 => ?_))
 · refine tt ⟨ix,tt ⟨(qG (l.getD i 0) w om om),⟨fun hc16 => ?_,fun hc16 => ?_⟩⟩⟩
   · refine tt ⟨?_,oK⟩
     first | exact (a4 (f := fun i => !gI (l.getD i 0) w) hc16 h3 (by omega)).symm | exact (a9 (f := fun i => !gI (l.getD i 0) w) (fun z hz => h3 z (by omega))).symm
   · refine ⟨w6,tt ⟨(i + 1),rfl,?_,(?_ : l.length - (i + 1) < l.length - i)⟩⟩
     · exact ⟨by omega,cB h3 hc16⟩
     · omega
 · refine tt ⟨?_,oK⟩
   first | exact (a4 (f := fun i => !gI (l.getD i 0) w) hc16 h3 (by omega)).symm | exact (a9 (f := fun i => !gI (l.getD i 0) w) (fun z hz => h3 z (by omega))).symm
abbrev wU (l : List Int) (w : Int) : Ct := ⟨65,[(LI l),(.fn (.func 66) [] [(.iptr [(.int .i64 w)] 0)])],false,(dB (decide (0 ≤ nu l w)))⟩
theorem wV (l : List Int) (w : Int) (h0 : 0 ≤ w) (h6 : w ≤ 62) (hl : l.length ≤ 9223372036854775807) : CC (wU l w) := by
 refine ai.vc (V := TT 3 (CC (wS l w)∧TT 3 ((decide ((nu l w) ≥ 0)) = (decide (0 ≤ nu l w))∧True))) (.w 1 [(2,(wS l w).O)] <| .e) Try.func65 rfl rfl rfl (by kernel_rfl) ?_
 refine tt ⟨(wT l w om om om),tt ⟨?_,oK⟩⟩
 rfl
abbrev yX (l : List Int) (w : Int) : Ct := ⟨58,[(LI l),(i6 w)],false,(dB (js l w))⟩
theorem sM (l : List Int) (w : Int) (h0 : 0 ≤ w) (h6 : w ≤ 62) (hl : l.length ≤ 9223372036854775807) : CC (yX l w) := by
 refine ai.vc (V := TT 4 (CK (wU l w)∧TT 3 ((!(decide (0 ≤ nu l w))) = (js l w)∧True))) (.w 1 [(2,(wU l w).O')] <| .e) Try.func58 rfl rfl rfl (by kernel_rfl) ?_
 refine tt ⟨⟨kQ _ rfl,(wV l w om om om)⟩,tt ⟨?_,oK⟩⟩
 exact sI
end Go.Proofs.Ytgmpoenfoacofaa
