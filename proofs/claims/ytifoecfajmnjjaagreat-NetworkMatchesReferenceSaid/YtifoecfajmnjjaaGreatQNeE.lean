/-
  Package network: copies of slices, values.
-/
import Derived.Test.YtifoecfajmnjjaaGreatQPrB
import Derived.Test.YtifoecfajmnjjaaGreatQNeF
import Derived.Test.YtifoecfajmnjjaaGreatQGrw
namespace Go.Proofs.YtifoecfajmnjjaaGreat
open Go.RowKit
set_option linter.unusedVariables false
set_option linter.unusedSimpArgs false
abbrev Bt : aE := (.arr 43 1 af [] ([] : List (List Int)))
abbrev Bu : aE := (.arr 3 1 (ah .i64) 0 ([] : List Int))
set_option maxRecDepth 100000
abbrev Kt (l : List Int) : yR := ⟨89,[(LI l)],(.own 0),(.arr 3 1 (ah .i64) 0 l)⟩
theorem zN (l : List Int) (h : l ≠ []) (hl : l.length ≤ 137438953472) : CO (Kt l) := by
 refine ai.vcO (V := TT 2 (l ≠ []∧ap [] (([] : List Int).map (ah .i64))∧TT 1 ((([] : List Int).length + (l.map (ah .i64)).length ≤ 137438953472∧([] : List Int).map (ah .i64) ++ l.map (ah .i64) = l.map (ah .i64))∧TT 2 (((.own 0) : D) = .own 0∧((.arr 3 1 (ah .i64) 0 l) : aE) = (.arr 3 1 (ah .i64) 0 l))))) (.w 3 [(0,.box 3 1 (ah .i64) 0 ([] : List Int)),(2,.box 3 1 (ah .i64) 0 l)] <| .e) Tryz.func89 rfl rfl rfl (by kernel_rfl) ?_
 exact tt ⟨(by exact h),⟨oK,tt ⟨⟨by simp only [List.length_map,List.length_nil]; omega,by simp⟩,tt ⟨rfl,rfl⟩⟩⟩⟩
abbrev Ku : yR := ⟨89,[.nils],(.own 0),Bu⟩
theorem zO  : CO Ku := by
 refine ai.vcO (V := TT 5 (((.own 0) : D) = .own 0∧([] : List Int) = [])) (.e) Tryz.func89 rfl rfl rfl (by kernel_rfl) ?_
 refine tt ⟨rfl,?_⟩
 rfl
abbrev Kv : yR := ⟨89,[(.v .esl)],(.own 0),Bu⟩
theorem zP  : CO Kv := by
 refine ai.vcO (V := TT 3 (ap [] (([] : List Int).map (ah .i64))∧TT 1 ((([] : List Int).length + (([] : List (List V))).length ≤ 137438953472∧([] : List Int).map (ah .i64) ++ ([] : List (List V)) = ([] : List Int).map (ah .i64))∧TT 2 (((.own 0) : D) = .own 0∧(Bu : aE) = Bu)))) (.w 3 [(0,.box 3 1 (ah .i64) 0 ([] : List Int)),(2,.box 3 1 (ah .i64) 0 ([] : List Int))] <| .e) Tryz.func89 rfl rfl rfl (by kernel_rfl) ?_
 exact tt ⟨oK,tt ⟨⟨by simp,by simp⟩,tt ⟨rfl,rfl⟩⟩⟩
abbrev Kw (l : List Int) : yR := ⟨89,[(LI l)],(.own 0),(.arr 3 1 (ah .i64) 0 l)⟩
theorem CA (l : List Int) (hl : l.length ≤ 137438953472) : CO (Kw l) :=
  ai.nilcases (fun h => zN l h hl) (fun h => by subst h; exact zO) (fun h => by subst h; exact zP)
abbrev I6 (l : List Ps) : yR := ⟨103,[(dL 2 a8 a7 l)],(.own 0),(.arr 45 2 a8 a7 l)⟩
theorem zQ (l : List Ps) (h : l ≠ []) (hl : l.length ≤ 137438953472) : CO (I6 l) := by
 refine ai.vcO (V := TT 2 (l ≠ []∧ap [] (([] : List Ps).map a8)∧TT 1 ((([] : List Ps).length + (l.map a8).length ≤ 137438953472∧([] : List Ps).map a8 ++ l.map a8 = l.map a8)∧TT 2 (((.own 0) : D) = .own 0∧((.arr 45 2 a8 a7 l) : aE) = (.arr 45 2 a8 a7 l))))) (.w 3 [(0,.box 45 2 a8 a7 ([] : List Ps)),(2,.box 45 2 a8 a7 l)] <| .e) Tryz.func103 rfl rfl rfl (by kernel_rfl) ?_
 exact tt ⟨(by exact h),⟨oK,tt ⟨⟨by simp only [List.length_map,List.length_nil]; omega,by simp⟩,tt ⟨rfl,rfl⟩⟩⟩⟩
abbrev I7 : yR := ⟨103,[.nils],(.own 0),(.arr 45 2 a8 a7 ([] : List Ps))⟩
theorem zR  : CO I7 := by
 refine ai.vcO (V := TT 5 (((.own 0) : D) = .own 0∧([] : List Ps) = [])) (.e) Tryz.func103 rfl rfl rfl (by kernel_rfl) ?_
 refine tt ⟨rfl,?_⟩
 rfl
abbrev I8 : yR := ⟨103,[(.v .esl)],(.own 0),(.arr 45 2 a8 a7 ([] : List Ps))⟩
theorem zS  : CO I8 := by
 refine ai.vcO (V := TT 3 (ap [] (([] : List Ps).map a8)∧TT 1 ((([] : List Ps).length + (([] : List (List V))).length ≤ 137438953472∧([] : List Ps).map a8 ++ ([] : List (List V)) = ([] : List Ps).map a8)∧TT 2 (((.own 0) : D) = .own 0∧((.arr 45 2 a8 a7 ([] : List Ps)) : aE) = (.arr 45 2 a8 a7 ([] : List Ps)))))) (.w 3 [(0,.box 45 2 a8 a7 ([] : List Ps)),(2,.box 45 2 a8 a7 ([] : List Ps))] <| .e) Tryz.func103 rfl rfl rfl (by kernel_rfl) ?_
 exact tt ⟨oK,tt ⟨⟨by simp,by simp⟩,tt ⟨rfl,rfl⟩⟩⟩
abbrev wJ (l : List Ps) : yR := ⟨103,[(dL 2 a8 a7 l)],(.own 0),(.arr 45 2 a8 a7 l)⟩
theorem mz (l : List Ps) (hl : l.length ≤ 137438953472) : CO (wJ l) :=
  ai.nilcases (fun h => zQ l h hl) (fun h => by subst h; exact zR) (fun h => by subst h; exact zS)
abbrev I9 (l : List (List Int)) : yR := ⟨104,[(dL 1 af [] l)],(.own 0),(.arr 43 1 af [] l)⟩
theorem zT (l : List (List Int)) (h : l ≠ []) (hl : l.length ≤ 137438953472) : CO (I9 l) := by
 refine ai.vcO (V := TT 2 (l ≠ []∧ap [] (([] : List (List Int)).map af)∧TT 1 ((([] : List (List Int)).length + (l.map af).length ≤ 137438953472∧([] : List (List Int)).map af ++ l.map af = l.map af)∧TT 2 (((.own 0) : D) = .own 0∧((.arr 43 1 af [] l) : aE) = (.arr 43 1 af [] l))))) (.w 3 [(0,.box 43 1 af [] ([] : List (List Int))),(2,.box 43 1 af [] l)] <| .e) Tryz.func104 rfl rfl rfl (by kernel_rfl) ?_
 exact tt ⟨(by exact h),⟨oK,tt ⟨⟨by simp only [List.length_map,List.length_nil]; omega,by simp⟩,tt ⟨rfl,rfl⟩⟩⟩⟩
abbrev Ja : yR := ⟨104,[.nils],(.own 0),Bt⟩
theorem zU  : CO Ja := by
 refine ai.vcO (V := TT 5 (((.own 0) : D) = .own 0∧([] : List (List Int)) = [])) (.e) Tryz.func104 rfl rfl rfl (by kernel_rfl) ?_
 refine tt ⟨rfl,?_⟩
 rfl
abbrev Jb : yR := ⟨104,[(.v .esl)],(.own 0),Bt⟩
theorem zV  : CO Jb := by
 refine ai.vcO (V := TT 3 (ap [] (([] : List (List Int)).map af)∧TT 1 ((([] : List (List Int)).length + (([] : List (List V))).length ≤ 137438953472∧([] : List (List Int)).map af ++ ([] : List (List V)) = ([] : List (List Int)).map af)∧TT 2 (((.own 0) : D) = .own 0∧(Bt : aE) = Bt)))) (.w 3 [(0,.box 43 1 af [] ([] : List (List Int))),(2,.box 43 1 af [] ([] : List (List Int)))] <| .e) Tryz.func104 rfl rfl rfl (by kernel_rfl) ?_
 exact tt ⟨oK,tt ⟨⟨by simp,by simp⟩,tt ⟨rfl,rfl⟩⟩⟩
abbrev wK (l : List (List Int)) : yR := ⟨104,[(dL 1 af [] l)],(.own 0),(.arr 43 1 af [] l)⟩
theorem mA (l : List (List Int)) (hl : l.length ≤ 137438953472) : CO (wK l) :=
  ai.nilcases (fun h => zT l h hl) (fun h => by subst h; exact zU) (fun h => by subst h; exact zV)
set_option maxHeartbeats 1600000 in
theorem zW (n : Nat) (hn : n ≤ 137438953472) (w : World) : Calls Tryz.prog 115 #[.slice none 0 0,.int .i64 (n : Int)] w (fun e w' => ∃ v,e = .returned v∧w'.ownsRow 0 3 1 v 0 []∧w.grownBy w' none∧∀ b,aG v = some b → w.heap.size ≤ b) := by
  by_cases h0 : n = 0
  · subst h0
    go_enter Tryz.func115,Tryz.ntmps115
    go_wp2
    go_ret
    exact ⟨_,rfl,World.ownsRow_nil _ 0 _ _,nU w,fun b hb => by simp [aG] at hb⟩
  · have hp : 0 < n := by omega
    have e1 : IntKind.i64.wrap ((n : Int) - (0 - 0)) = (n : Int) := DK rfl (by omega) (by omega)
    have e0 : ¬ ((n : Int) < 0) := by omega
    have e2 : (n : Int) > 0 := by omega
    have hb8 : Tryz.t3.bytes = 8 := rfl
    have hnx : Builtin.nextslicecap n 0 = n := nextslicecap_zero hp
    go_enter Tryz.func115,Tryz.ntmps115
    go_wp2
    all_goals try (exfalso; simp only [hb8,hnx] at *; omega)
    go_ret
    have hK : n ≤ grownCap w n 0 3∧grownCap w n 0 3 ≤ maxLen := ⟨grownCap_ge ..,grownCap_le_maxLen _ _ _ _ (by unfold maxLen; omega)⟩
    refine ⟨_,rfl,World.ownsRow_made w (Builtin.zeroCells #[Value.int IntKind.i64 0] n ++ Builtin.zeroCells #[Value.int IntKind.i64 0] (grownCap w n 0 3 - n)) (grownCap w n 0 3) (Nat.zero_le _) hK.2 ?_,⟨rfl,rfl,rfl,?_,fun k hk _ => ?_⟩,fun b hb => ?_⟩
    · simp [Builtin.zeroCells]; omega
    · simp
    · exact Below.heap_alloc w _ k hk
    · simp [aG] at hb; omega
abbrev HH (n : Nat) : yR := ⟨115,[.nils,(i6 (n : Int))],.own 0,.arr 3 1 (ah .i64) 0 []⟩
theorem Gb (n : Nat) (hn : n ≤ 137438953472) : CO (HH n) := by
  refine ai.of_empty (fun S μ w us hu => ?_)
  obtain ⟨h1,h2⟩ := hu
  have h0 : us = #[us[0]'(by simp at h1; omega),us[1]'(by simp at h1; omega)] := by
    apply Array.ext
    · simpa using h1
    · intro i a b
      simp at h1
      have : i = 0 ∨ i = 1 := by omega
      rcases this with rfl | rfl <;> rfl
  have k0 := h2 0 _ (us[0]'(by simp at h1; omega)) rfl (Array.getElem?_eq_getElem _)
  have k1 := h2 1 _ (us[1]'(by simp at h1; omega)) rfl (Array.getElem?_eq_getElem _)
  rw [h0]
  generalize us[0]'(by simp at h1; omega) = x at k0 ⊢
  generalize us[1]'(by simp at h1; omega) = y at k1 ⊢
  cases k0
  rw [b4 k1]
  exact zW n hn w
abbrev HI (ls : List (List Int)) : Ct := ⟨106,[(dL 1 af [] ls)],false,(LI ls.flatten)⟩
abbrev mB (ls : List (List Int)) : Lp (Nat) := fC [0,3,9,10,11] 0 (fun (i : Nat) => ⟨[(0,(dL 1 af [] ls)),(3,(i6 (((ls.take i).flatten.length : Nat) : Int))),(9,(dL 1 af [] ls)),(10,(i6 (ls.length : Int))),(11,(i6 (i : Int)))],[]⟩) (fun (i : Nat) => i ≤ ls.length) (fun (i : Nat) => ls.length - i)
abbrev mC (ls : List (List Int)) : Lp (Nat) := fC [6,25,26,27] 1 (fun (j : Nat) => ⟨[(6,(.own 0)),(25,(dL 1 af [] ls)),(26,(i6 (ls.length : Int))),(27,(i6 (j : Int)))],[(.arr 3 1 (ah .i64) 0 ((ls.take j).flatten))]⟩) (fun (j : Nat) => j ≤ ls.length) (fun (j : Nat) => ls.length - j)
theorem CE (ls : List (List Int)) (h1 : ls.length ≤ 1000000) (h2 : ls.flatten.length ≤ 137438953472) : CC (HI ls) := by
 refine ai.vc (V := TT 5 (GO (mB ls) 0 (∀ i,(mB ls).inv i → TT 1 (CD ((i : Int) < (ls.length : Int)) (IX (i : Int) ls.length∧TT 5 ((True∧(IntKind.wrap .i64 ((((ls.take i).flatten.length : Nat) : Int) + (((ls.getD i []).length : Nat) : Int))) = (((ls.take (i + 1)).flatten.length : Nat) : Int))∧TT 3 ((decide ((((ls.take (i + 1)).flatten.length : Nat) : Int) < 0)) = false∧W6 ((i + 1 : Nat) : Int)∧TT 1 (AG (mB ls) i (i + 1))))) (TT 1 (CO (HH ((ls.take i).flatten.length))∧TT 4 (GO (mC ls) 0 (∀ j,(mC ls).inv j → TT 1 (CD ((j : Int) < (ls.length : Int)) (IX (j : Int) ls.length∧TT 4 ((((ls.take j).flatten).length + ((ls.getD j []).map (ah .i64)).length ≤ 137438953472∧((ls.take j).flatten).map (ah .i64) ++ (ls.getD j []).map (ah .i64) = ((ls.take (j + 1)).flatten).map (ah .i64))∧TT 1 (W6 ((j + 1 : Nat) : Int)∧TT 1 (AG (mC ls) j (j + 1))))) (TT 3 (((ls.take j).flatten).map (ah .i64) = ls.flatten.map (ah .i64)∧((∀ z ∈ ls.flatten,((ah .i64) z).all V.scal = true))))))))))))) (.l (mB ls) 0 (fun i => .b 12 (.w 5 [(3,.val (i6 (((ls.take (i + 1)).flatten.length : Nat) : Int)))] <| .u 20 (.w 8 [(0,.val (i6 ((i + 1 : Nat) : Int)))] <| .e)) (.w 9 [(1,(HH ((ls.take i).flatten.length)).O)] <| .l (mC ls) 0 (fun j => .b 28 (.w 13 [(2,.box 3 1 (ah .i64) 0 ((ls.take (j + 1)).flatten))] <| .w 14 [(0,.val (i6 ((j + 1 : Nat) : Int)))] <| .e) (.e))))) Tryz.func106 rfl rfl rfl (by kernel_rfl) ?_
 refine tt ⟨rfl,(by omega),?_⟩
 intro i hinv
 have hi := hinv
 refine tt (cd (fun hc12 => ?_) (fun hc12 => ?_))
 · have hi1 : i < ls.length := by omega
   have hf := vj hi1
   have hg := wH (ls := ls) (i := i + 1)
   rw [hf,List.length_append] at hg
   refine ⟨ix,tt ⟨⟨oK,(by rw [hf,List.length_append,Int.natCast_add]; exact DK rfl (by omega) (by omega))⟩,tt ⟨(decide_eq_false (by omega)),⟨w6,tt ⟨(i + 1),rfl,(?_ : (i + 1) ≤ ls.length),(?_ : ls.length - (i + 1) < ls.length - i)⟩⟩⟩⟩⟩
   · omega
   · omega
 · have hg := wH (ls := ls) (i := i)
   refine tt ⟨(Gb ((ls.take i).flatten.length) om),tt ⟨rfl,(by omega),?_⟩⟩
   intro j hinv
   have hj := hinv
   refine tt (cd (fun hc28 => ?_) (fun hc28 => ?_))
   · have hj1 : j < ls.length := by omega
     have hf := vj hj1
     have hg := wH (ls := ls) (i := j + 1)
     rw [hf,List.length_append] at hg
     refine ⟨ix,tt ⟨⟨by simp only [List.length_map]; omega,by rw [hf,List.map_append]⟩,tt ⟨w6,tt ⟨(j + 1),rfl,(?_ : (j + 1) ≤ ls.length),(?_ : ls.length - (j + 1) < ls.length - j)⟩⟩⟩⟩
     · omega
     · omega
   · refine tt ⟨(congrArg _ (?_ : ((ls.take j).flatten) = ls.flatten)),(fun _ _ => rfl)⟩
     exact EI (by omega)
abbrev Kx (v w : Int) : Ct := ⟨73,[(i6 v),(.iptr [(.int .i64 w)] 0)],false,(dB (!(cj v w)))⟩
theorem zX (v w : Int) (h0 : 0 ≤ w) (h6 : w ≤ 62) : CC (Kx v w) := by
 refine ai.vc (V := TT 1 (CS (v < 0) (TT 2 ((True∧(decide (v < 0)) = true)∧TT 7 (true = (!(cj v w))∧True))) (TT 2 ((True∧(decide (v < 0)) = false)∧TT 2 (SH w∧TT 4 ((decide (v ≥ (2 ^ w.toNat))) = (!(cj v w))∧True)))))) (.s 1 (v < 0) (.w 1 [(2,.val (dB true))] <| .e) (.w 1 [(2,.val (dB false)),(5,.val (i6 (2 ^ w.toNat)))] <| .e)) Tryz.func73 rfl rfl rfl (by kernel_rfl) ?_
 refine tt ⟨fun hs0 => ?_,fun hs0 => ?_⟩
 · refine tt ⟨(vT hs0),tt ⟨?_,oK⟩⟩
   first | (unfold cj; rw [decide_eq_false (by omega)]; rfl) | (unfold cj; rw [decide_eq_true (show (0 : Int) ≤ v by omega),cA h0 h6,Bool.true_and]; by_cases hq : v < 2 ^ w.toNat <;> first | (rw [decide_eq_false (by omega),decide_eq_true (by omega)]; rfl) | (rw [decide_eq_true (by omega),decide_eq_false (by omega)]; rfl))
 · refine tt ⟨(vF hs0),tt ⟨(sh (by have := lx (n := w.toNat) (by omega); omega) (by have := lx (n := w.toNat) (by omega); omega)),tt ⟨?_,oK⟩⟩⟩
   first | (unfold cj; rw [decide_eq_false (by omega)]; rfl) | (unfold cj; rw [decide_eq_true (show (0 : Int) ≤ v by omega),cA h0 h6,Bool.true_and]; by_cases hq : v < 2 ^ w.toNat <;> first | (rw [decide_eq_false (by omega),decide_eq_true (by omega)]; rfl) | (rw [decide_eq_true (by omega),decide_eq_false (by omega)]; rfl))
abbrev HJ (l : List Int) (w : Int) : Ct := ⟨96,[(LI l),(.fn (.func 73) [] [(.iptr [(.int .i64 w)] 0)])],false,(i6 (wG l w))⟩
abbrev wL (l : List Int) (w : Int) : Lp (Nat) := fC [0,1,7,8] 0 (fun (i : Nat) => ⟨[(0,(LI l)),(1,(.fn (.func 73) [] [(.iptr [(.int .i64 w)] 0)])),(7,(i6 (l.length : Int))),(8,(i6 (i : Int)))],[]⟩) (fun (i : Nat) => i ≤ l.length∧∀ z,z < i → (!cj (l.getD z 0) w) = false) (fun (i : Nat) => l.length - i)
theorem HK (l : List Int) (w : Int) (h0 : 0 ≤ w) (h6 : w ≤ 62) (hl : l.length ≤ 9223372036854775807) : CC (HJ l w) := by
 refine ai.vc (V := TT 4 (GO (wL l w) 0 (∀ i,(wL l w).inv i → TT 1 (CD ((i : Int) < (l.length : Int)) (TT 5 (IX (i : Int) l.length∧TT 1 (CC (Kx (l.getD i 0) w)∧CB (!(cj (l.getD i 0) w)) (TT 3 ((i : Int) = (wG l w)∧True)) (W6 ((i + 1 : Nat) : Int)∧TT 1 (AG (wL l w) i (i + 1)))))) (TT 2 ((-1) = (wG l w)∧True)))))) (.l (wL l w) 0 (fun i => .b 9 (.w 4 [(5,(Kx (l.getD i 0) w).O)] <| .b 16 (.e) (.w 6 [(0,.val (i6 ((i + 1 : Nat) : Int)))] <| .e)) (.e))) Tryz.func96 rfl rfl rfl (by kernel_rfl) ?_
 refine tt ⟨rfl,⟨by omega,fun z hz => by omega⟩,?_⟩
 intro i hinv
 obtain ⟨hi,h3⟩ := hinv
 refine tt (cd (fun hc9 => ?_) (fun hc9 => ?_))
 · refine tt ⟨ix,tt ⟨(zX (l.getD i 0) w om om),⟨fun hc16 => ?_,fun hc16 => ?_⟩⟩⟩
   · refine tt ⟨?_,oK⟩
     first | exact (iy (f := fun i => !cj (l.getD i 0) w) hc16 h3 (by omega)).symm | exact (my (f := fun i => !cj (l.getD i 0) w) (fun z hz => h3 z (by omega))).symm
   · refine ⟨w6,tt ⟨(i + 1),rfl,?_,(?_ : l.length - (i + 1) < l.length - i)⟩⟩
     · exact ⟨by omega,bZ h3 hc16⟩
     · omega
 · refine tt ⟨?_,oK⟩
   first | exact (iy (f := fun i => !cj (l.getD i 0) w) hc16 h3 (by omega)).symm | exact (my (f := fun i => !cj (l.getD i 0) w) (fun z hz => h3 z (by omega))).symm
abbrev HL (l : List Int) (w : Int) : Ct := ⟨72,[(LI l),(.fn (.func 73) [] [(.iptr [(.int .i64 w)] 0)])],false,(dB (decide (0 ≤ wG l w)))⟩
theorem HM (l : List Int) (w : Int) (h0 : 0 ≤ w) (h6 : w ≤ 62) (hl : l.length ≤ 9223372036854775807) : CC (HL l w) := by
 refine ai.vc (V := TT 3 (CC (HJ l w)∧TT 3 ((decide ((wG l w) ≥ 0)) = (decide (0 ≤ wG l w))∧True))) (.w 1 [(2,(HJ l w).O)] <| .e) Tryz.func72 rfl rfl rfl (by kernel_rfl) ?_
 refine tt ⟨(HK l w om om om),tt ⟨?_,oK⟩⟩
 rfl
abbrev CF (l : List Int) (w : Int) : Ct := ⟨49,[(LI l),(i6 w)],false,(dB (b6 l w))⟩
theorem hT (l : List Int) (w : Int) (h0 : 0 ≤ w) (h6 : w ≤ 62) (hl : l.length ≤ 9223372036854775807) : CC (CF l w) := by
 refine ai.vc (V := TT 4 (CK (HL l w)∧TT 3 ((!(decide (0 ≤ wG l w))) = (b6 l w)∧True))) (.w 1 [(2,(HL l w).O')] <| .e) Tryz.func49 rfl rfl rfl (by kernel_rfl) ?_
 refine tt ⟨⟨c4 _ rfl,(HM l w om om om)⟩,tt ⟨?_,oK⟩⟩
 exact Cz
end Go.Proofs.YtifoecfajmnjjaaGreat
