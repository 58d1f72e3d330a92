/-
  Package network: copies of slices, values.
-/
import Derived.Test.YtgmpoenfoacofaaGreatQPrB
import Derived.Test.YtgmpoenfoacofaaGreatQGrw
namespace Go.Proofs.YtgmpoenfoacofaaGreat
open Go.RowKit
set_option linter.unusedVariables false
set_option linter.unusedSimpArgs false
abbrev BA : az := (.arr 28 1 ac [] ([] : List (List Int)))
set_option maxRecDepth 100000
abbrev K0 (l : List Ps) : A5 := ⟨88,[(dL 2 aV a7 l)],(.own 0),(.arr 112 2 aV a7 l)⟩
theorem z7 (l : List Ps) (h : l ≠ []) (hl : l.length ≤ 137438953472) : CO (K0 l) := by
 refine af.vcO (V := TT 2 (l ≠ []∧am [] (([] : List Ps).map aV)∧TT 1 ((([] : List Ps).length + (l.map aV).length ≤ 137438953472∧([] : List Ps).map aV ++ l.map aV = l.map aV)∧TT 2 (((.own 0) : D) = .own 0∧((.arr 112 2 aV a7 l) : az) = (.arr 112 2 aV a7 l))))) (.w 3 [(0,.box 112 2 aV a7 ([] : List Ps)),(2,.box 112 2 aV a7 l)] <| .e) Tryz.func88 rfl rfl rfl (by kernel_rfl) ?_
 exact tt ⟨(by exact h),⟨oK,tt ⟨⟨by simp only [List.length_map,List.length_nil]; omega,by simp⟩,tt ⟨rfl,rfl⟩⟩⟩⟩
abbrev K1 : A5 := ⟨88,[.nils],(.own 0),(.arr 112 2 aV a7 ([] : List Ps))⟩
theorem z8  : CO K1 := by
 refine af.vcO (V := TT 5 (((.own 0) : D) = .own 0∧([] : List Ps) = [])) (.e) Tryz.func88 rfl rfl rfl (by kernel_rfl) ?_
 refine tt ⟨rfl,?_⟩
 rfl
abbrev K2 : A5 := ⟨88,[(.v .esl)],(.own 0),(.arr 112 2 aV a7 ([] : List Ps))⟩
theorem z9  : CO K2 := by
 refine af.vcO (V := TT 3 (am [] (([] : List Ps).map aV)∧TT 1 ((([] : List Ps).length + (([] : List (List V))).length ≤ 137438953472∧([] : List Ps).map aV ++ ([] : List (List V)) = ([] : List Ps).map aV)∧TT 2 (((.own 0) : D) = .own 0∧((.arr 112 2 aV a7 ([] : List Ps)) : az) = (.arr 112 2 aV a7 ([] : List Ps)))))) (.w 3 [(0,.box 112 2 aV a7 ([] : List Ps)),(2,.box 112 2 aV a7 ([] : List Ps))] <| .e) Tryz.func88 rfl rfl rfl (by kernel_rfl) ?_
 exact tt ⟨oK,tt ⟨⟨by simp,by simp⟩,tt ⟨rfl,rfl⟩⟩⟩
abbrev JH (l : List Ps) : A5 := ⟨88,[(dL 2 aV a7 l)],(.own 0),(.arr 112 2 aV a7 l)⟩
theorem vW (l : List Ps) (hl : l.length ≤ 137438953472) : CO (JH l) :=
  af.nilcases (fun h => z7 l h hl) (fun h => by subst h; exact z8) (fun h => by subst h; exact z9)
abbrev K3 (l : List (List Int)) : A5 := ⟨89,[(dL 1 ac [] l)],(.own 0),(.arr 28 1 ac [] l)⟩
theorem Aa (l : List (List Int)) (h : l ≠ []) (hl : l.length ≤ 137438953472) : CO (K3 l) := by
 refine af.vcO (V := TT 2 (l ≠ []∧am [] (([] : List (List Int)).map ac)∧TT 1 ((([] : List (List Int)).length + (l.map ac).length ≤ 137438953472∧([] : List (List Int)).map ac ++ l.map ac = l.map ac)∧TT 2 (((.own 0) : D) = .own 0∧((.arr 28 1 ac [] l) : az) = (.arr 28 1 ac [] l))))) (.w 3 [(0,.box 28 1 ac [] ([] : List (List Int))),(2,.box 28 1 ac [] l)] <| .e) Tryz.func89 rfl rfl rfl (by kernel_rfl) ?_
 exact tt ⟨(by exact h),⟨oK,tt ⟨⟨by simp only [List.length_map,List.length_nil]; omega,by simp⟩,tt ⟨rfl,rfl⟩⟩⟩⟩
abbrev K4 : A5 := ⟨89,[.nils],(.own 0),BA⟩
theorem Ab  : CO K4 := by
 refine af.vcO (V := TT 5 (((.own 0) : D) = .own 0∧([] : List (List Int)) = [])) (.e) Tryz.func89 rfl rfl rfl (by kernel_rfl) ?_
 refine tt ⟨rfl,?_⟩
 rfl
abbrev K5 : A5 := ⟨89,[(.v .esl)],(.own 0),BA⟩
theorem Ac  : CO K5 := by
 refine af.vcO (V := TT 3 (am [] (([] : List (List Int)).map ac)∧TT 1 ((([] : List (List Int)).length + (([] : List (List V))).length ≤ 137438953472∧([] : List (List Int)).map ac ++ ([] : List (List V)) = ([] : List (List Int)).map ac)∧TT 2 (((.own 0) : D) = .own 0∧(BA : az) = BA)))) (.w 3 [(0,.box 28 1 ac [] ([] : List (List Int))),(2,.box 28 1 ac [] ([] : List (List Int)))] <| .e) Tryz.func89 rfl rfl rfl (by kernel_rfl) ?_
 exact tt ⟨oK,tt ⟨⟨by simp,by simp⟩,tt ⟨rfl,rfl⟩⟩⟩
abbrev JI (l : List (List Int)) : A5 := ⟨89,[(dL 1 ac [] l)],(.own 0),(.arr 28 1 ac [] l)⟩
theorem vX (l : List (List Int)) (hl : l.length ≤ 137438953472) : CO (JI l) :=
  af.nilcases (fun h => Aa l h hl) (fun h => by subst h; exact Ab) (fun h => by subst h; exact Ac)
set_option maxHeartbeats 1600000 in
theorem Ad (n : Nat) (hn : n ≤ 137438953472) (w : World) : Calls Tryz.prog 100 #[.slice none 0 0,.int .i64 (n : Int)] w (fun e w' => ∃ v,e = .returned v∧w'.ownsRow 0 3 1 v 0 []∧w.grownBy w' none∧∀ b,ay v = some b → w.heap.size ≤ b) := by
  by_cases h0 : n = 0
  · subst h0
    go_enter Tryz.func100,Tryz.ntmps100
    go_wp2
    go_ret
    exact ⟨_,rfl,World.ownsRow_nil _ 0 _ _,nb w,fun b hb => by simp [ay] at hb⟩
  · have hp : 0 < n := by omega
    have e1 : IntKind.i64.wrap ((n : Int) - (0 - 0)) = (n : Int) := AZ rfl (by omega) (by omega)
    have e0 : ¬ ((n : Int) < 0) := by omega
    have e2 : (n : Int) > 0 := by omega
    have hb8 : Tryz.t3.bytes = 8 := rfl
    have hnx : Builtin.nextslicecap n 0 = n := nextslicecap_zero hp
    go_enter Tryz.func100,Tryz.ntmps100
    go_wp2
    all_goals try (exfalso; simp only [hb8,hnx] at *; omega)
    go_ret
    have hK : n ≤ grownCap w n 0 3∧grownCap w n 0 3 ≤ maxLen := ⟨grownCap_ge ..,grownCap_le_maxLen _ _ _ _ (by unfold maxLen; omega)⟩
    refine ⟨_,rfl,World.ownsRow_made w (Builtin.zeroCells #[Value.int IntKind.i64 0] n ++ Builtin.zeroCells #[Value.int IntKind.i64 0] (grownCap w n 0 3 - n)) (grownCap w n 0 3) (Nat.zero_le _) hK.2 ?_,⟨rfl,rfl,rfl,?_,fun k hk _ => ?_⟩,fun b hb => ?_⟩
    · simp [Builtin.zeroCells]; omega
    · simp
    · exact Below.heap_alloc w _ k hk
    · simp [ay] at hb; omega
abbrev Il (n : Nat) : A5 := ⟨100,[.nils,(i6 (n : Int))],.own 0,.arr 3 1 (ae .i64) 0 []⟩
theorem GD (n : Nat) (hn : n ≤ 137438953472) : CO (Il n) := by
  refine af.of_empty (fun S μ w us hu => ?_)
  obtain ⟨h1,h2⟩ := hu
  have h0 : us = #[us[0]'(by simp at h1; omega),us[1]'(by simp at h1; omega)] := by
    apply Array.ext
    · simpa using h1
    · intro i a b
      simp at h1
      have : i = 0 ∨ i = 1 := by omega
      rcases this with rfl | rfl <;> rfl
  have k0 := h2 0 _ (us[0]'(by simp at h1; omega)) rfl (Array.getElem?_eq_getElem _)
  have k1 := h2 1 _ (us[1]'(by simp at h1; omega)) rfl (Array.getElem?_eq_getElem _)
  rw [h0]
  generalize us[0]'(by simp at h1; omega) = x at k0 ⊢
  generalize us[1]'(by simp at h1; omega) = y at k1 ⊢
  cases k0
  rw [bO k1]
  exact Ad n hn w
abbrev K6 (ls : List (List Int)) : Ct := ⟨92,[(dL 1 ac [] ls)],false,(LI ls.flatten)⟩
abbrev lU (ls : List (List Int)) : Lp (Nat) := f6 [0,3,9,10,11] 0 (fun (i : Nat) => ⟨[(0,(dL 1 ac [] ls)),(3,(i6 (((ls.take i).flatten.length : Nat) : Int))),(9,(dL 1 ac [] ls)),(10,(i6 (ls.length : Int))),(11,(i6 (i : Int)))],[]⟩) (fun (i : Nat) => i ≤ ls.length) (fun (i : Nat) => ls.length - i)
abbrev lV (ls : List (List Int)) : Lp (Nat) := f6 [6,25,26,27] 1 (fun (j : Nat) => ⟨[(6,(.own 0)),(25,(dL 1 ac [] ls)),(26,(i6 (ls.length : Int))),(27,(i6 (j : Int)))],[(.arr 3 1 (ae .i64) 0 ((ls.take j).flatten))]⟩) (fun (j : Nat) => j ≤ ls.length) (fun (j : Nat) => ls.length - j)
theorem CX (ls : List (List Int)) (h1 : ls.length ≤ 1000000) (h2 : ls.flatten.length ≤ 137438953472) : CC (K6 ls) := by
 refine af.vc (V := TT 5 (GO (lU ls) 0 (∀ i,(lU ls).inv i → TT 1 (CD ((i : Int) < (ls.length : Int)) (IX (i : Int) ls.length∧TT 5 ((True∧(IntKind.wrap .i64 ((((ls.take i).flatten.length : Nat) : Int) + (((ls.getD i []).length : Nat) : Int))) = (((ls.take (i + 1)).flatten.length : Nat) : Int))∧TT 3 ((decide ((((ls.take (i + 1)).flatten.length : Nat) : Int) < 0)) = false∧W6 ((i + 1 : Nat) : Int)∧TT 1 (AG (lU ls) i (i + 1))))) (TT 1 (CO (Il ((ls.take i).flatten.length))∧TT 4 (GO (lV ls) 0 (∀ j,(lV ls).inv j → TT 1 (CD ((j : Int) < (ls.length : Int)) (IX (j : Int) ls.length∧TT 4 ((((ls.take j).flatten).length + ((ls.getD j []).map (ae .i64)).length ≤ 137438953472∧((ls.take j).flatten).map (ae .i64) ++ (ls.getD j []).map (ae .i64) = ((ls.take (j + 1)).flatten).map (ae .i64))∧TT 1 (W6 ((j + 1 : Nat) : Int)∧TT 1 (AG (lV ls) j (j + 1))))) (TT 3 (((ls.take j).flatten).map (ae .i64) = ls.flatten.map (ae .i64)∧((∀ z ∈ ls.flatten,((ae .i64) z).all V.scal = true))))))))))))) (.l (lU ls) 0 (fun i => .b 12 (.w 5 [(3,.val (i6 (((ls.take (i + 1)).flatten.length : Nat) : Int)))] <| .u 20 (.w 8 [(0,.val (i6 ((i + 1 : Nat) : Int)))] <| .e)) (.w 9 [(1,(Il ((ls.take i).flatten.length)).O)] <| .l (lV ls) 0 (fun j => .b 28 (.w 13 [(2,.box 3 1 (ae .i64) 0 ((ls.take (j + 1)).flatten))] <| .w 14 [(0,.val (i6 ((j + 1 : Nat) : Int)))] <| .e) (.e))))) Tryz.func92 rfl rfl rfl (by kernel_rfl) ?_
 refine tt ⟨rfl,(by omega),?_⟩
 intro i hinv
 have hi := hinv
 refine tt (cd (fun hc12 => ?_) (fun hc12 => ?_))
 · have hi1 : i < ls.length := by omega
   have hf := vV hi1
   have hg := xl (ls := ls) (i := i + 1)
   rw [hf,List.length_append] at hg
   refine ⟨ix,tt ⟨⟨oK,(by rw [hf,List.length_append,Int.natCast_add]; exact AZ rfl (by omega) (by omega))⟩,tt ⟨(decide_eq_false (by omega)),⟨w6,tt ⟨(i + 1),rfl,(?_ : (i + 1) ≤ ls.length),(?_ : ls.length - (i + 1) < ls.length - i)⟩⟩⟩⟩⟩
   · omega
   · omega
 · have hg := xl (ls := ls) (i := i)
   refine tt ⟨(GD ((ls.take i).flatten.length) om),tt ⟨rfl,(by omega),?_⟩⟩
   intro j hinv
   have hj := hinv
   refine tt (cd (fun hc28 => ?_) (fun hc28 => ?_))
   · have hj1 : j < ls.length := by omega
     have hf := vV hj1
     have hg := xl (ls := ls) (i := j + 1)
     rw [hf,List.length_append] at hg
     refine ⟨ix,tt ⟨⟨by simp only [List.length_map]; omega,by rw [hf,List.map_append]⟩,tt ⟨w6,tt ⟨(j + 1),rfl,(?_ : (j + 1) ≤ ls.length),(?_ : ls.length - (j + 1) < ls.length - j)⟩⟩⟩⟩
     · omega
     · omega
   · refine tt ⟨(congrArg _ (?_ : ((ls.take j).flatten) = ls.flatten)),(fun _ _ => rfl)⟩
     exact ES (by omega)
abbrev K7 (v w : Int) : Ct := ⟨87,[(i6 v),(.iptr [(.int .i64 w)] 0)],false,(dB (!(ga v w)))⟩
theorem Ae (v w : Int) (h0 : 0 ≤ w) (h6 : w ≤ 62) : CC (K7 v w) := by
 refine af.vc (V := TT 1 (CS (v < 0) (TT 2 ((True∧(decide (v < 0)) = true)∧TT 7 (true = (!(ga v w))∧True))) (TT 2 ((True∧(decide (v < 0)) = false)∧TT 2 (SH w∧TT 4 ((decide (v ≥ (2 ^ w.toNat))) = (!(ga v w))∧True)))))) (.s 1 (v < 0) (.w 1 [(2,.val (dB true))] <| .e) (.w 1 [(2,.val (dB false)),(5,.val (i6 (2 ^ w.toNat)))] <| .e)) Tryz.func87 rfl rfl rfl (by kernel_rfl) ?_
 refine tt ⟨fun hs0 => ?_,fun hs0 => ?_⟩
 · refine tt ⟨(vT hs0),tt ⟨?_,oK⟩⟩
   first | (unfold ga; rw [decide_eq_false (by omega)]; rfl) | (unfold ga; rw [decide_eq_true (show (0 : Int) ≤ v by omega),cr h0 h6,Bool.true_and]; by_cases hq : v < 2 ^ w.toNat <;> first | (rw [decide_eq_false (by omega),decide_eq_true (by omega)]; rfl) | (rw [decide_eq_true (by omega),decide_eq_false (by omega)]; rfl))
 · refine tt ⟨(vF hs0),tt ⟨(sh (by have := mJ (n := w.toNat) (by omega); omega) (by have := mJ (n := w.toNat) (by omega); omega)),tt ⟨?_,oK⟩⟩⟩
   first | (unfold ga; rw [decide_eq_false (by omega)]; rfl) | (unfold ga; rw [decide_eq_true (show (0 : Int) ≤ v by omega),cr h0 h6,Bool.true_and]; by_cases hq : v < 2 ^ w.toNat <;> first | (rw [decide_eq_false (by omega),decide_eq_true (by omega)]; rfl) | (rw [decide_eq_true (by omega),decide_eq_false (by omega)]; rfl))
abbrev Im (l : List Int) (w : Int) : Ct := ⟨99,[(LI l),(.fn (.func 87) [] [(.iptr [(.int .i64 w)] 0)])],false,(i6 (xk l w))⟩
abbrev xn (l : List Int) (w : Int) : Lp (Nat) := f6 [0,1,7,8] 0 (fun (i : Nat) => ⟨[(0,(LI l)),(1,(.fn (.func 87) [] [(.iptr [(.int .i64 w)] 0)])),(7,(i6 (l.length : Int))),(8,(i6 (i : Int)))],[]⟩) (fun (i : Nat) => i ≤ l.length∧∀ z,z < i → (!ga (l.getD z 0) w) = false) (fun (i : Nat) => l.length - i)
theorem Io (l : List Int) (w : Int) (h0 : 0 ≤ w) (h6 : w ≤ 62) (hl : l.length ≤ 9223372036854775807) : CC (Im l w) := by
 refine af.vc (V := TT 4 (GO (xn l w) 0 (∀ i,(xn l w).inv i → TT 1 (CD ((i : Int) < (l.length : Int)) (TT 5 (IX (i : Int) l.length∧TT 1 (CC (K7 (l.getD i 0) w)∧CB (!(ga (l.getD i 0) w)) (TT 3 ((i : Int) = (xk l w)∧True)) (W6 ((i + 1 : Nat) : Int)∧TT 1 (AG (xn l w) i (i + 1)))))) (TT 2 ((-1) = (xk l w)∧True)))))) (.l (xn l w) 0 (fun i => .b 9 (.w 4 [(5,(K7 (l.getD i 0) w).O)] <| .b 16 (.e) (.w 6 [(0,.val (i6 ((i + 1 : Nat) : Int)))] <| .e)) (.e))) Tryz.func99 rfl rfl rfl (by kernel_rfl) ?_
 refine tt ⟨rfl,⟨by omega,fun z hz => by omega⟩,?_⟩
 intro i hinv
 obtain ⟨hi,h3⟩ := hinv
 refine tt (cd (fun hc9 => ?_) (fun hc9 => ?_))
 · refine tt ⟨ix,tt ⟨(Ae (l.getD i 0) w om om),⟨fun hc16 => ?_,fun hc16 => ?_⟩⟩⟩
   · refine tt ⟨?_,oK⟩
     first | exact (bo (f := fun i => !ga (l.getD i 0) w) hc16 h3 (by omega)).symm | exact (bM (f := fun i => !ga (l.getD i 0) w) (fun z hz => h3 z (by omega))).symm
   · refine ⟨w6,tt ⟨(i + 1),rfl,?_,(?_ : l.length - (i + 1) < l.length - i)⟩⟩
     · exact ⟨by omega,bH h3 hc16⟩
     · omega
 · refine tt ⟨?_,oK⟩
   first | exact (bo (f := fun i => !ga (l.getD i 0) w) hc16 h3 (by omega)).symm | exact (bM (f := fun i => !ga (l.getD i 0) w) (fun z hz => h3 z (by omega))).symm
abbrev Ip (l : List Int) (w : Int) : Ct := ⟨86,[(LI l),(.fn (.func 87) [] [(.iptr [(.int .i64 w)] 0)])],false,(dB (decide (0 ≤ xk l w)))⟩
theorem Iq (l : List Int) (w : Int) (h0 : 0 ≤ w) (h6 : w ≤ 62) (hl : l.length ≤ 9223372036854775807) : CC (Ip l w) := by
 refine af.vc (V := TT 3 (CC (Im l w)∧TT 3 ((decide ((xk l w) ≥ 0)) = (decide (0 ≤ xk l w))∧True))) (.w 1 [(2,(Im l w).O)] <| .e) Tryz.func86 rfl rfl rfl (by kernel_rfl) ?_
 refine tt ⟨(Io l w om om om),tt ⟨?_,oK⟩⟩
 rfl
abbrev K8 (l : List Int) (w : Int) : Ct := ⟨77,[(LI l),(i6 w)],false,(dB (fN l w))⟩
theorem CY (l : List Int) (w : Int) (h0 : 0 ≤ w) (h6 : w ≤ 62) (hl : l.length ≤ 9223372036854775807) : CC (K8 l w) := by
 refine af.vc (V := TT 4 (CK (Ip l w)∧TT 3 ((!(decide (0 ≤ xk l w))) = (fN l w)∧True))) (.w 1 [(2,(Ip l w).O')] <| .e) Tryz.func77 rfl rfl rfl (by kernel_rfl) ?_
 refine tt ⟨⟨cD _ rfl,(Iq l w om om om)⟩,tt ⟨?_,oK⟩⟩
 exact CW
end Go.Proofs.YtgmpoenfoacofaaGreat
