/-
  Package network: copies of slices, values.
-/
import Derived.Test.YtgmpoenfoacofaaGreatQPrB
import Derived.Test.YtgmpoenfoacofaaGreatQNeF
import Derived.Test.YtgmpoenfoacofaaGreatQGrw
namespace Go.Proofs.YtgmpoenfoacofaaGreat
open Go.RowKit
set_option linter.unusedVariables false
set_option linter.unusedSimpArgs false
abbrev yV : au := (.arr 28 1 ac [] ([] : List (List Int)))
set_option maxRecDepth 100000
abbrev Ij (l : List Ps) : yB := ⟨88,[(dL 2 bA b4 l)],(.own 0),(.arr 112 2 bA b4 l)⟩
theorem xD (l : List Ps) (h : l ≠ []) (hl : l.length ≤ 137438953472) : CO (Ij l) := by
 refine af.vcO (V := TT 2 (l ≠ []∧an [] (([] : List Ps).map bA)∧TT 1 ((([] : List Ps).length + (l.map bA).length ≤ 137438953472∧([] : List Ps).map bA ++ l.map bA = l.map bA)∧TT 2 (((.own 0) : D) = .own 0∧((.arr 112 2 bA b4 l) : au) = (.arr 112 2 bA b4 l))))) (.w 3 [(0,.box 112 2 bA b4 ([] : List Ps)),(2,.box 112 2 bA b4 l)] <| .e) Tryz.func88 rfl rfl rfl (by kernel_rfl) ?_
 exact tt ⟨(by exact h),⟨oK,tt ⟨⟨by simp only [List.length_map,List.length_nil]; omega,by simp⟩,tt ⟨rfl,rfl⟩⟩⟩⟩
abbrev Ik : yB := ⟨88,[.nils],(.own 0),(.arr 112 2 bA b4 ([] : List Ps))⟩
theorem xE  : CO Ik := by
 refine af.vcO (V := TT 5 (((.own 0) : D) = .own 0∧([] : List Ps) = [])) (.e) Tryz.func88 rfl rfl rfl (by kernel_rfl) ?_
 refine tt ⟨rfl,?_⟩
 rfl
abbrev Il : yB := ⟨88,[(.v .esl)],(.own 0),(.arr 112 2 bA b4 ([] : List Ps))⟩
theorem xF  : CO Il := by
 refine af.vcO (V := TT 3 (an [] (([] : List Ps).map bA)∧TT 1 ((([] : List Ps).length + (([] : List (List V))).length ≤ 137438953472∧([] : List Ps).map bA ++ ([] : List (List V)) = ([] : List Ps).map bA)∧TT 2 (((.own 0) : D) = .own 0∧((.arr 112 2 bA b4 ([] : List Ps)) : au) = (.arr 112 2 bA b4 ([] : List Ps)))))) (.w 3 [(0,.box 112 2 bA b4 ([] : List Ps)),(2,.box 112 2 bA b4 ([] : List Ps))] <| .e) Tryz.func88 rfl rfl rfl (by kernel_rfl) ?_
 exact tt ⟨oK,tt ⟨⟨by simp,by simp⟩,tt ⟨rfl,rfl⟩⟩⟩
abbrev G9 (l : List Ps) : yB := ⟨88,[(dL 2 bA b4 l)],(.own 0),(.arr 112 2 bA b4 l)⟩
theorem tD (l : List Ps) (hl : l.length ≤ 137438953472) : CO (G9 l) :=
  af.nilcases (fun h => xD l h hl) (fun h => by subst h; exact xE) (fun h => by subst h; exact xF)
abbrev Im (l : List (List Int)) : yB := ⟨89,[(dL 1 ac [] l)],(.own 0),(.arr 28 1 ac [] l)⟩
theorem xG (l : List (List Int)) (h : l ≠ []) (hl : l.length ≤ 137438953472) : CO (Im l) := by
 refine af.vcO (V := TT 2 (l ≠ []∧an [] (([] : List (List Int)).map ac)∧TT 1 ((([] : List (List Int)).length + (l.map ac).length ≤ 137438953472∧([] : List (List Int)).map ac ++ l.map ac = l.map ac)∧TT 2 (((.own 0) : D) = .own 0∧((.arr 28 1 ac [] l) : au) = (.arr 28 1 ac [] l))))) (.w 3 [(0,.box 28 1 ac [] ([] : List (List Int))),(2,.box 28 1 ac [] l)] <| .e) Tryz.func89 rfl rfl rfl (by kernel_rfl) ?_
 exact tt ⟨(by exact h),⟨oK,tt ⟨⟨by simp only [List.length_map,List.length_nil]; omega,by simp⟩,tt ⟨rfl,rfl⟩⟩⟩⟩
abbrev Io : yB := ⟨89,[.nils],(.own 0),yV⟩
theorem xH  : CO Io := by
 refine af.vcO (V := TT 5 (((.own 0) : D) = .own 0∧([] : List (List Int)) = [])) (.e) Tryz.func89 rfl rfl rfl (by kernel_rfl) ?_
 refine tt ⟨rfl,?_⟩
 rfl
abbrev Ip : yB := ⟨89,[(.v .esl)],(.own 0),yV⟩
theorem xI  : CO Ip := by
 refine af.vcO (V := TT 3 (an [] (([] : List (List Int)).map ac)∧TT 1 ((([] : List (List Int)).length + (([] : List (List V))).length ≤ 137438953472∧([] : List (List Int)).map ac ++ ([] : List (List V)) = ([] : List (List Int)).map ac)∧TT 2 (((.own 0) : D) = .own 0∧(yV : au) = yV)))) (.w 3 [(0,.box 28 1 ac [] ([] : List (List Int))),(2,.box 28 1 ac [] ([] : List (List Int)))] <| .e) Tryz.func89 rfl rfl rfl (by kernel_rfl) ?_
 exact tt ⟨oK,tt ⟨⟨by simp,by simp⟩,tt ⟨rfl,rfl⟩⟩⟩
abbrev Ha (l : List (List Int)) : yB := ⟨89,[(dL 1 ac [] l)],(.own 0),(.arr 28 1 ac [] l)⟩
theorem tE (l : List (List Int)) (hl : l.length ≤ 137438953472) : CO (Ha l) :=
  af.nilcases (fun h => xG l h hl) (fun h => by subst h; exact xH) (fun h => by subst h; exact xI)
set_option maxHeartbeats 1600000 in
theorem xJ (n : Nat) (hn : n ≤ 137438953472) (w : World) : Calls Tryz.prog 100 #[.slice none 0 0,.int .i64 (n : Int)] w (fun e w' => ∃ v,e = .returned v∧w'.ownsRow 0 3 1 v 0 []∧w.grownBy w' none∧∀ b,ap v = some b → w.heap.size ≤ b) := by
  by_cases h0 : n = 0
  · subst h0
    go_enter Tryz.func100,Tryz.ntmps100
    go_wp2
    go_ret
    exact ⟨_,rfl,World.ownsRow_nil _ 0 _ _,lR w,fun b hb => by simp [ap] at hb⟩
  · have hp : 0 < n := by omega
    have e1 : IntKind.i64.wrap ((n : Int) - (0 - 0)) = (n : Int) := A8 rfl (by omega) (by omega)
    have e0 : ¬ ((n : Int) < 0) := by omega
    have e2 : (n : Int) > 0 := by omega
    have hb8 : Tryz.t3.bytes = 8 := rfl
    have hnx : Builtin.nextslicecap n 0 = n := nextslicecap_zero hp
    go_enter Tryz.func100,Tryz.ntmps100
    go_wp2
    all_goals try (exfalso; simp only [hb8,hnx] at *; omega)
    go_ret
    have hK : n ≤ grownCap w n 0 3∧grownCap w n 0 3 ≤ maxLen := ⟨grownCap_ge ..,grownCap_le_maxLen _ _ _ _ (by unfold maxLen; omega)⟩
    refine ⟨_,rfl,World.ownsRow_made w (Builtin.zeroCells #[Value.int IntKind.i64 0] n ++ Builtin.zeroCells #[Value.int IntKind.i64 0] (grownCap w n 0 3 - n)) (grownCap w n 0 3) (Nat.zero_le _) hK.2 ?_,⟨rfl,rfl,rfl,?_,fun k hk _ => ?_⟩,fun b hb => ?_⟩
    · simp [Builtin.zeroCells]; omega
    · simp
    · exact Below.heap_alloc w _ k hk
    · simp [ap] at hb; omega
abbrev FN (n : Nat) : yB := ⟨100,[.nils,(i6 (n : Int))],.own 0,.arr 3 1 (ah .i64) 0 []⟩
theorem DX (n : Nat) (hn : n ≤ 137438953472) : CO (FN n) := by
  refine af.of_empty (fun S μ w us hu => ?_)
  obtain ⟨h1,h2⟩ := hu
  have h0 : us = #[us[0]'(by simp at h1; omega),us[1]'(by simp at h1; omega)] := by
    apply Array.ext
    · simpa using h1
    · intro i a b
      simp at h1
      have : i = 0 ∨ i = 1 := by omega
      rcases this with rfl | rfl <;> rfl
  have k0 := h2 0 _ (us[0]'(by simp at h1; omega)) rfl (Array.getElem?_eq_getElem _)
  have k1 := h2 1 _ (us[1]'(by simp at h1; omega)) rfl (Array.getElem?_eq_getElem _)
  rw [h0]
  generalize us[0]'(by simp at h1; omega) = x at k0 ⊢
  generalize us[1]'(by simp at h1; omega) = y at k1 ⊢
  cases k0
  rw [bB k1]
  exact xJ n hn w
abbrev Iq (ls : List (List Int)) : Ct := ⟨92,[(dL 1 ac [] ls)],false,(LI ls.flatten)⟩
abbrev kJ (ls : List (List Int)) : Lp (Nat) := jO [0,3,9,10,11] 0 (fun (i : Nat) => ⟨[(0,(dL 1 ac [] ls)),(3,(i6 (((ls.take i).flatten.length : Nat) : Int))),(9,(dL 1 ac [] ls)),(10,(i6 (ls.length : Int))),(11,(i6 (i : Int)))],[]⟩) (fun (i : Nat) => i ≤ ls.length) (fun (i : Nat) => ls.length - i)
abbrev kK (ls : List (List Int)) : Lp (Nat) := jO [6,25,26,27] 1 (fun (j : Nat) => ⟨[(6,(.own 0)),(25,(dL 1 ac [] ls)),(26,(i6 (ls.length : Int))),(27,(i6 (j : Int)))],[(.arr 3 1 (ah .i64) 0 ((ls.take j).flatten))]⟩) (fun (j : Nat) => j ≤ ls.length) (fun (j : Nat) => ls.length - j)
theorem Ae (ls : List (List Int)) (h1 : ls.length ≤ 1000000) (h2 : ls.flatten.length ≤ 137438953472) : CC (Iq ls) := by
 refine af.vc (V := TT 5 (GO (kJ ls) 0 (∀ i,(kJ ls).inv i → TT 1 (CD ((i : Int) < (ls.length : Int)) (IX (i : Int) ls.length∧TT 5 ((True∧(IntKind.wrap .i64 ((((ls.take i).flatten.length : Nat) : Int) + (((ls.getD i []).length : Nat) : Int))) = (((ls.take (i + 1)).flatten.length : Nat) : Int))∧TT 3 ((decide ((((ls.take (i + 1)).flatten.length : Nat) : Int) < 0)) = false∧W6 ((i + 1 : Nat) : Int)∧TT 1 (AG (kJ ls) i (i + 1))))) (TT 1 (CO (FN ((ls.take i).flatten.length))∧TT 4 (GO (kK ls) 0 (∀ j,(kK ls).inv j → TT 1 (CD ((j : Int) < (ls.length : Int)) (IX (j : Int) ls.length∧TT 4 ((((ls.take j).flatten).length + ((ls.getD j []).map (ah .i64)).length ≤ 137438953472∧((ls.take j).flatten).map (ah .i64) ++ (ls.getD j []).map (ah .i64) = ((ls.take (j + 1)).flatten).map (ah .i64))∧TT 1 (W6 ((j + 1 : Nat) : Int)∧TT 1 (AG (kK ls) j (j + 1))))) (TT 3 (((ls.take j).flatten).map (ah .i64) = ls.flatten.map (ah .i64)∧((∀ z ∈ ls.flatten,((ah .i64) z).all V.scal = true))))))))))))) (.l (kJ ls) 0 (fun i => .b 12 (.w 5 [(3,.val (i6 (((ls.take (i + 1)).flatten.length : Nat) : Int)))] <| .u 20 (.w 8 [(0,.val (i6 ((i + 1 : Nat) : Int)))] <| .e)) (.w 9 [(1,(FN ((ls.take i).flatten.length)).O)] <| .l (kK ls) 0 (fun j => .b 28 (.w 13 [(2,.box 3 1 (ah .i64) 0 ((ls.take (j + 1)).flatten))] <| .w 14 [(0,.val (i6 ((j + 1 : Nat) : Int)))] <| .e) (.e))))) Tryz.func92 rfl rfl rfl (by kernel_rfl) ?_
 refine tt ⟨rfl,(by omega),?_⟩
 intro i hinv
 have hi := hinv
 refine tt (cd (fun hc12 => ?_) (fun hc12 => ?_))
 · have hi1 : i < ls.length := by omega
   have hf := tC hi1
   have hg := uO (ls := ls) (i := i + 1)
   rw [hf,List.length_append] at hg
   refine ⟨ix,tt ⟨⟨oK,(by rw [hf,List.length_append,Int.natCast_add]; exact A8 rfl (by omega) (by omega))⟩,tt ⟨(decide_eq_false (by omega)),⟨w6,tt ⟨(i + 1),rfl,(?_ : (i + 1) ≤ ls.length),(?_ : ls.length - (i + 1) < ls.length - i)⟩⟩⟩⟩⟩
   · omega
   · omega
 · have hg := uO (ls := ls) (i := i)
   refine tt ⟨(DX ((ls.take i).flatten.length) om),tt ⟨rfl,(by omega),?_⟩⟩
   intro j hinv
   have hj := hinv
   refine tt (cd (fun hc28 => ?_) (fun hc28 => ?_))
   · have hj1 : j < ls.length := by omega
     have hf := tC hj1
     have hg := uO (ls := ls) (i := j + 1)
     rw [hf,List.length_append] at hg
     refine ⟨ix,tt ⟨⟨by simp only [List.length_map]; omega,by rw [hf,List.map_append]⟩,tt ⟨w6,tt ⟨(j + 1),rfl,(?_ : (j + 1) ≤ ls.length),(?_ : ls.length - (j + 1) < ls.length - j)⟩⟩⟩⟩
     · omega
     · omega
   · refine tt ⟨(congrArg _ (?_ : ((ls.take j).flatten) = ls.flatten)),(fun _ _ => rfl)⟩
     exact B7 (by omega)
abbrev Ir (v w : Int) : Ct := ⟨87,[(i6 v),(.iptr [(.int .i64 w)] 0)],false,(dB (!(cj v w)))⟩
theorem xK (v w : Int) (h0 : 0 ≤ w) (h6 : w ≤ 62) : CC (Ir v w) := by
 refine af.vc (V := TT 1 (CS (v < 0) (TT 2 ((True∧(decide (v < 0)) = true)∧TT 7 (true = (!(cj v w))∧True))) (TT 2 ((True∧(decide (v < 0)) = false)∧TT 2 (SH w∧TT 4 ((decide (v ≥ (2 ^ w.toNat))) = (!(cj v w))∧True)))))) (.s 1 (v < 0) (.w 1 [(2,.val (dB true))] <| .e) (.w 1 [(2,.val (dB false)),(5,.val (i6 (2 ^ w.toNat)))] <| .e)) Tryz.func87 rfl rfl rfl (by kernel_rfl) ?_
 refine tt ⟨fun hs0 => ?_,fun hs0 => ?_⟩
 · refine tt ⟨(vT hs0),tt ⟨?_,oK⟩⟩
   first | (unfold cj; rw [decide_eq_false (by omega)]; rfl) | (unfold cj; rw [decide_eq_true (show (0 : Int) ≤ v by omega),cR h0 h6,Bool.true_and]; by_cases hq : v < 2 ^ w.toNat <;> first | (rw [decide_eq_false (by omega),decide_eq_true (by omega)]; rfl) | (rw [decide_eq_true (by omega),decide_eq_false (by omega)]; rfl))
 · refine tt ⟨(vF hs0),tt ⟨(sh (by have := jR (n := w.toNat) (by omega); omega) (by have := jR (n := w.toNat) (by omega); omega)),tt ⟨?_,oK⟩⟩⟩
   first | (unfold cj; rw [decide_eq_false (by omega)]; rfl) | (unfold cj; rw [decide_eq_true (show (0 : Int) ≤ v by omega),cR h0 h6,Bool.true_and]; by_cases hq : v < 2 ^ w.toNat <;> first | (rw [decide_eq_false (by omega),decide_eq_true (by omega)]; rfl) | (rw [decide_eq_true (by omega),decide_eq_false (by omega)]; rfl))
abbrev FO (l : List Int) (w : Int) : Ct := ⟨99,[(LI l),(.fn (.func 87) [] [(.iptr [(.int .i64 w)] 0)])],false,(i6 (uN l w))⟩
abbrev uQ (l : List Int) (w : Int) : Lp (Nat) := jO [0,1,7,8] 0 (fun (i : Nat) => ⟨[(0,(LI l)),(1,(.fn (.func 87) [] [(.iptr [(.int .i64 w)] 0)])),(7,(i6 (l.length : Int))),(8,(i6 (i : Int)))],[]⟩) (fun (i : Nat) => i ≤ l.length∧∀ z,z < i → (!cj (l.getD z 0) w) = false) (fun (i : Nat) => l.length - i)
theorem FP (l : List Int) (w : Int) (h0 : 0 ≤ w) (h6 : w ≤ 62) (hl : l.length ≤ 9223372036854775807) : CC (FO l w) := by
 refine af.vc (V := TT 4 (GO (uQ l w) 0 (∀ i,(uQ l w).inv i → TT 1 (CD ((i : Int) < (l.length : Int)) (TT 5 (IX (i : Int) l.length∧TT 1 (CC (Ir (l.getD i 0) w)∧CB (!(cj (l.getD i 0) w)) (TT 3 ((i : Int) = (uN l w)∧True)) (W6 ((i + 1 : Nat) : Int)∧TT 1 (AG (uQ l w) i (i + 1)))))) (TT 2 ((-1) = (uN l w)∧True)))))) (.l (uQ l w) 0 (fun i => .b 9 (.w 4 [(5,(Ir (l.getD i 0) w).O)] <| .b 16 (.e) (.w 6 [(0,.val (i6 ((i + 1 : Nat) : Int)))] <| .e)) (.e))) Tryz.func99 rfl rfl rfl (by kernel_rfl) ?_
 refine tt ⟨rfl,⟨by omega,fun z hz => by omega⟩,?_⟩
 intro i hinv
 obtain ⟨hi,h3⟩ := hinv
 refine tt (cd (fun hc9 => ?_) (fun hc9 => ?_))
 · refine tt ⟨ix,tt ⟨(xK (l.getD i 0) w om om),⟨fun hc16 => ?_,fun hc16 => ?_⟩⟩⟩
   · refine tt ⟨?_,oK⟩
     first | exact (bM (f := fun i => !cj (l.getD i 0) w) hc16 h3 (by omega)).symm | exact (cY (f := fun i => !cj (l.getD i 0) w) (fun z hz => h3 z (by omega))).symm
   · refine ⟨w6,tt ⟨(i + 1),rfl,?_,(?_ : l.length - (i + 1) < l.length - i)⟩⟩
     · exact ⟨by omega,b6 h3 hc16⟩
     · omega
 · refine tt ⟨?_,oK⟩
   first | exact (bM (f := fun i => !cj (l.getD i 0) w) hc16 h3 (by omega)).symm | exact (cY (f := fun i => !cj (l.getD i 0) w) (fun z hz => h3 z (by omega))).symm
abbrev FQ (l : List Int) (w : Int) : Ct := ⟨86,[(LI l),(.fn (.func 87) [] [(.iptr [(.int .i64 w)] 0)])],false,(dB (decide (0 ≤ uN l w)))⟩
theorem FR (l : List Int) (w : Int) (h0 : 0 ≤ w) (h6 : w ≤ 62) (hl : l.length ≤ 9223372036854775807) : CC (FQ l w) := by
 refine af.vc (V := TT 3 (CC (FO l w)∧TT 3 ((decide ((uN l w) ≥ 0)) = (decide (0 ≤ uN l w))∧True))) (.w 1 [(2,(FO l w).O)] <| .e) Tryz.func86 rfl rfl rfl (by kernel_rfl) ?_
 refine tt ⟨(FP l w om om om),tt ⟨?_,oK⟩⟩
 rfl
abbrev It (l : List Int) (w : Int) : Ct := ⟨77,[(LI l),(i6 w)],false,(dB (cy l w))⟩
theorem Af (l : List Int) (w : Int) (h0 : 0 ≤ w) (h6 : w ≤ 62) (hl : l.length ≤ 9223372036854775807) : CC (It l w) := by
 refine af.vc (V := TT 4 (CK (FQ l w)∧TT 3 ((!(decide (0 ≤ uN l w))) = (cy l w)∧True))) (.w 1 [(2,(FQ l w).O')] <| .e) Tryz.func77 rfl rfl rfl (by kernel_rfl) ?_
 refine tt ⟨⟨cQ _ rfl,(FR l w om om om)⟩,tt ⟨?_,oK⟩⟩
 exact Ad
end Go.Proofs.YtgmpoenfoacofaaGreat
