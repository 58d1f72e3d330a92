/-
  Package network: copies of slices, values.
-/
import Derived.Test.YtckgpflobhpnpaaQPrB
import Derived.Test.YtckgpflobhpnpaaQNeF
import Derived.Test.YtckgpflobhpnpaaQGrw
namespace Go.Proofs.Ytckgpflobhpnpaa
open Go.RowKit
set_option linter.unusedVariables false
set_option linter.unusedSimpArgs false
abbrev An : aj := (.arr 37 1 aa [] ([] : List (List Int)))
abbrev Ao : aj := (.arr 3 1 (ae .i64) 0 ([] : List Int))
set_option maxRecDepth 100000
abbrev Jn (l : List Int) : tD := ⟨48,[(LI l)],(.own 0),(.arr 3 1 (ae .i64) 0 l)⟩
theorem yI (l : List Int) (h : l ≠ []) (hl : l.length ≤ 137438953472) : CO (Jn l) := by
 refine ai.vcO (V := TT 2 (l ≠ []∧aF [] (([] : List Int).map (ae .i64))∧TT 1 ((([] : List Int).length + (l.map (ae .i64)).length ≤ 137438953472∧([] : List Int).map (ae .i64) ++ l.map (ae .i64) = l.map (ae .i64))∧TT 2 (((.own 0) : D) = .own 0∧((.arr 3 1 (ae .i64) 0 l) : aj) = (.arr 3 1 (ae .i64) 0 l))))) (.w 3 [(0,.box 3 1 (ae .i64) 0 ([] : List Int)),(2,.box 3 1 (ae .i64) 0 l)] <| .e) Try.func48 rfl rfl rfl (by kernel_rfl) ?_
 exact tt ⟨(by exact h),⟨oK,tt ⟨⟨by simp only [List.length_map,List.length_nil]; omega,by simp⟩,tt ⟨rfl,rfl⟩⟩⟩⟩
abbrev Jo : tD := ⟨48,[.nils],(.own 0),Ao⟩
theorem yJ  : CO Jo := by
 refine ai.vcO (V := TT 5 (((.own 0) : D) = .own 0∧([] : List Int) = [])) (.e) Try.func48 rfl rfl rfl (by kernel_rfl) ?_
 refine tt ⟨rfl,?_⟩
 rfl
abbrev Jp : tD := ⟨48,[(.v .esl)],(.own 0),Ao⟩
theorem yK  : CO Jp := by
 refine ai.vcO (V := TT 3 (aF [] (([] : List Int).map (ae .i64))∧TT 1 ((([] : List Int).length + (([] : List (List V))).length ≤ 137438953472∧([] : List Int).map (ae .i64) ++ ([] : List (List V)) = ([] : List Int).map (ae .i64))∧TT 2 (((.own 0) : D) = .own 0∧(Ao : aj) = Ao)))) (.w 3 [(0,.box 3 1 (ae .i64) 0 ([] : List Int)),(2,.box 3 1 (ae .i64) 0 ([] : List Int))] <| .e) Try.func48 rfl rfl rfl (by kernel_rfl) ?_
 exact tt ⟨oK,tt ⟨⟨by simp,by simp⟩,tt ⟨rfl,rfl⟩⟩⟩
abbrev Jq (l : List Int) : tD := ⟨48,[(LI l)],(.own 0),(.arr 3 1 (ae .i64) 0 l)⟩
theorem Br (l : List Int) (hl : l.length ≤ 137438953472) : CO (Jq l) :=
  ai.nilcases (fun h => yI l h hl) (fun h => by subst h; exact yJ) (fun h => by subst h; exact yK)
abbrev Jr (l : List Ps) : tD := ⟨66,[(dL 2 bW bK l)],(.own 0),(.arr 113 2 bW bK l)⟩
theorem yL (l : List Ps) (h : l ≠ []) (hl : l.length ≤ 137438953472) : CO (Jr l) := by
 refine ai.vcO (V := TT 2 (l ≠ []∧aF [] (([] : List Ps).map bW)∧TT 1 ((([] : List Ps).length + (l.map bW).length ≤ 137438953472∧([] : List Ps).map bW ++ l.map bW = l.map bW)∧TT 2 (((.own 0) : D) = .own 0∧((.arr 113 2 bW bK l) : aj) = (.arr 113 2 bW bK l))))) (.w 3 [(0,.box 113 2 bW bK ([] : List Ps)),(2,.box 113 2 bW bK l)] <| .e) Try.func66 rfl rfl rfl (by kernel_rfl) ?_
 exact tt ⟨(by exact h),⟨oK,tt ⟨⟨by simp only [List.length_map,List.length_nil]; omega,by simp⟩,tt ⟨rfl,rfl⟩⟩⟩⟩
abbrev Js : tD := ⟨66,[.nils],(.own 0),(.arr 113 2 bW bK ([] : List Ps))⟩
theorem yM  : CO Js := by
 refine ai.vcO (V := TT 5 (((.own 0) : D) = .own 0∧([] : List Ps) = [])) (.e) Try.func66 rfl rfl rfl (by kernel_rfl) ?_
 refine tt ⟨rfl,?_⟩
 rfl
abbrev Jt : tD := ⟨66,[(.v .esl)],(.own 0),(.arr 113 2 bW bK ([] : List Ps))⟩
theorem yN  : CO Jt := by
 refine ai.vcO (V := TT 3 (aF [] (([] : List Ps).map bW)∧TT 1 ((([] : List Ps).length + (([] : List (List V))).length ≤ 137438953472∧([] : List Ps).map bW ++ ([] : List (List V)) = ([] : List Ps).map bW)∧TT 2 (((.own 0) : D) = .own 0∧((.arr 113 2 bW bK ([] : List Ps)) : aj) = (.arr 113 2 bW bK ([] : List Ps)))))) (.w 3 [(0,.box 113 2 bW bK ([] : List Ps)),(2,.box 113 2 bW bK ([] : List Ps))] <| .e) Try.func66 rfl rfl rfl (by kernel_rfl) ?_
 exact tt ⟨oK,tt ⟨⟨by simp,by simp⟩,tt ⟨rfl,rfl⟩⟩⟩
abbrev Ju (l : List Ps) : tD := ⟨66,[(dL 2 bW bK l)],(.own 0),(.arr 113 2 bW bK l)⟩
theorem Bs (l : List Ps) (hl : l.length ≤ 137438953472) : CO (Ju l) :=
  ai.nilcases (fun h => yL l h hl) (fun h => by subst h; exact yM) (fun h => by subst h; exact yN)
abbrev Jv (l : List (List Int)) : tD := ⟨67,[(dL 1 aa [] l)],(.own 0),(.arr 37 1 aa [] l)⟩
theorem yO (l : List (List Int)) (h : l ≠ []) (hl : l.length ≤ 137438953472) : CO (Jv l) := by
 refine ai.vcO (V := TT 2 (l ≠ []∧aF [] (([] : List (List Int)).map aa)∧TT 1 ((([] : List (List Int)).length + (l.map aa).length ≤ 137438953472∧([] : List (List Int)).map aa ++ l.map aa = l.map aa)∧TT 2 (((.own 0) : D) = .own 0∧((.arr 37 1 aa [] l) : aj) = (.arr 37 1 aa [] l))))) (.w 3 [(0,.box 37 1 aa [] ([] : List (List Int))),(2,.box 37 1 aa [] l)] <| .e) Try.func67 rfl rfl rfl (by kernel_rfl) ?_
 exact tt ⟨(by exact h),⟨oK,tt ⟨⟨by simp only [List.length_map,List.length_nil]; omega,by simp⟩,tt ⟨rfl,rfl⟩⟩⟩⟩
abbrev Jw : tD := ⟨67,[.nils],(.own 0),An⟩
theorem yP  : CO Jw := by
 refine ai.vcO (V := TT 5 (((.own 0) : D) = .own 0∧([] : List (List Int)) = [])) (.e) Try.func67 rfl rfl rfl (by kernel_rfl) ?_
 refine tt ⟨rfl,?_⟩
 rfl
abbrev Jx : tD := ⟨67,[(.v .esl)],(.own 0),An⟩
theorem yQ  : CO Jx := by
 refine ai.vcO (V := TT 3 (aF [] (([] : List (List Int)).map aa)∧TT 1 ((([] : List (List Int)).length + (([] : List (List V))).length ≤ 137438953472∧([] : List (List Int)).map aa ++ ([] : List (List V)) = ([] : List (List Int)).map aa)∧TT 2 (((.own 0) : D) = .own 0∧(An : aj) = An)))) (.w 3 [(0,.box 37 1 aa [] ([] : List (List Int))),(2,.box 37 1 aa [] ([] : List (List Int)))] <| .e) Try.func67 rfl rfl rfl (by kernel_rfl) ?_
 exact tt ⟨oK,tt ⟨⟨by simp,by simp⟩,tt ⟨rfl,rfl⟩⟩⟩
abbrev Jy (l : List (List Int)) : tD := ⟨67,[(dL 1 aa [] l)],(.own 0),(.arr 37 1 aa [] l)⟩
theorem Bt (l : List (List Int)) (hl : l.length ≤ 137438953472) : CO (Jy l) :=
  ai.nilcases (fun h => yO l h hl) (fun h => by subst h; exact yP) (fun h => by subst h; exact yQ)
set_option maxHeartbeats 1600000 in
theorem yR (n : Nat) (hn : n ≤ 137438953472) (w : World) : Calls Try.prog 79 #[.slice none 0 0,.int .i64 (n : Int)] w (fun e w' => ∃ v,e = .returned v∧w'.ownsRow 0 3 1 v 0 []∧w.grownBy w' none∧∀ b,aA v = some b → w.heap.size ≤ b) := by
  by_cases h0 : n = 0
  · subst h0
    go_enter Try.func79,Try.ntmps79
    go_wp2
    go_ret
    exact ⟨_,rfl,World.ownsRow_nil _ 0 _ _,jQ w,fun b hb => by simp [aA] at hb⟩
  · have hp : 0 < n := by omega
    have e1 : IntKind.i64.wrap ((n : Int) - (0 - 0)) = (n : Int) := I1 rfl (by omega) (by omega)
    have e0 : ¬ ((n : Int) < 0) := by omega
    have e2 : (n : Int) > 0 := by omega
    have hb8 : Try.t3.bytes = 8 := rfl
    have hnx : Builtin.nextslicecap n 0 = n := nextslicecap_zero hp
    go_enter Try.func79,Try.ntmps79
    go_wp2
    all_goals try (exfalso; simp only [hb8,hnx] at *; omega)
    go_ret
    have hK : n ≤ grownCap w n 0 3∧grownCap w n 0 3 ≤ maxLen := ⟨grownCap_ge ..,grownCap_le_maxLen _ _ _ _ (by unfold maxLen; omega)⟩
    refine ⟨_,rfl,World.ownsRow_made w (Builtin.zeroCells #[Value.int IntKind.i64 0] n ++ Builtin.zeroCells #[Value.int IntKind.i64 0] (grownCap w n 0 3 - n)) (grownCap w n 0 3) (Nat.zero_le _) hK.2 ?_,⟨rfl,rfl,rfl,?_,fun k hk _ => ?_⟩,fun b hb => ?_⟩
    · simp [Builtin.zeroCells]; omega
    · simp
    · exact Below.heap_alloc w _ k hk
    · simp [aA] at hb; omega
abbrev Jz (n : Nat) : tD := ⟨79,[.nils,(i6 (n : Int))],.own 0,.arr 3 1 (ae .i64) 0 []⟩
theorem Fr (n : Nat) (hn : n ≤ 137438953472) : CO (Jz n) := by
  refine ai.of_empty (fun S μ w us hu => ?_)
  obtain ⟨h1,h2⟩ := hu
  have h0 : us = #[us[0]'(by simp at h1; omega),us[1]'(by simp at h1; omega)] := by
    apply Array.ext
    · simpa using h1
    · intro i a b
      simp at h1
      have : i = 0 ∨ i = 1 := by omega
      rcases this with rfl | rfl <;> rfl
  have k0 := h2 0 _ (us[0]'(by simp at h1; omega)) rfl (Array.getElem?_eq_getElem _)
  have k1 := h2 1 _ (us[1]'(by simp at h1; omega)) rfl (Array.getElem?_eq_getElem _)
  rw [h0]
  generalize us[0]'(by simp at h1; omega) = x at k0 ⊢
  generalize us[1]'(by simp at h1; omega) = y at k1 ⊢
  cases k0
  rw [bz k1]
  exact yR n hn w
abbrev JA (ls : List (List Int)) : Ct := ⟨76,[(dL 1 aa [] ls)],false,(LI ls.flatten)⟩
abbrev mu (ls : List (List Int)) : Lp (Nat) := pT [0,3,9,10,11] 0 (fun (i : Nat) => ⟨[(0,(dL 1 aa [] ls)),(3,(i6 (((ls.take i).flatten.length : Nat) : Int))),(9,(dL 1 aa [] ls)),(10,(i6 (ls.length : Int))),(11,(i6 (i : Int)))],[]⟩) (fun (i : Nat) => i ≤ ls.length) (fun (i : Nat) => ls.length - i)
abbrev my (ls : List (List Int)) : Lp (Nat) := pT [6,25,26,27] 1 (fun (j : Nat) => ⟨[(6,(.own 0)),(25,(dL 1 aa [] ls)),(26,(i6 (ls.length : Int))),(27,(i6 (j : Int)))],[(.arr 3 1 (ae .i64) 0 ((ls.take j).flatten))]⟩) (fun (j : Nat) => j ≤ ls.length) (fun (j : Nat) => ls.length - j)
theorem Bu (ls : List (List Int)) (h1 : ls.length ≤ 1000000) (h2 : ls.flatten.length ≤ 137438953472) : CC (JA ls) := by
 refine ai.vc (V := TT 5 (GO (mu ls) 0 (∀ i,(mu ls).inv i → TT 1 (CD ((i : Int) < (ls.length : Int)) (IX (i : Int) ls.length∧TT 5 ((True∧(IntKind.wrap .i64 ((((ls.take i).flatten.length : Nat) : Int) + (((ls.getD i []).length : Nat) : Int))) = (((ls.take (i + 1)).flatten.length : Nat) : Int))∧TT 3 ((decide ((((ls.take (i + 1)).flatten.length : Nat) : Int) < 0)) = false∧W6 ((i + 1 : Nat) : Int)∧TT 1 (AG (mu ls) i (i + 1))))) (TT 1 (CO (Jz ((ls.take i).flatten.length))∧TT 4 (GO (my ls) 0 (∀ j,(my ls).inv j → TT 1 (CD ((j : Int) < (ls.length : Int)) (IX (j : Int) ls.length∧TT 4 ((((ls.take j).flatten).length + ((ls.getD j []).map (ae .i64)).length ≤ 137438953472∧((ls.take j).flatten).map (ae .i64) ++ (ls.getD j []).map (ae .i64) = ((ls.take (j + 1)).flatten).map (ae .i64))∧TT 1 (W6 ((j + 1 : Nat) : Int)∧TT 1 (AG (my ls) j (j + 1))))) (TT 3 (((ls.take j).flatten).map (ae .i64) = ls.flatten.map (ae .i64)∧((∀ z ∈ ls.flatten,((ae .i64) z).all V.scal = true))))))))))))) (.l (mu ls) 0 (fun i => .b 12 (.w 5 [(3,.val (i6 (((ls.take (i + 1)).flatten.length : Nat) : Int)))] <| .u 20 (.w 8 [(0,.val (i6 ((i + 1 : Nat) : Int)))] <| .e)) (.w 9 [(1,(Jz ((ls.take i).flatten.length)).O)] <| .l (my ls) 0 (fun j => .b 28 (.w 13 [(2,.box 3 1 (ae .i64) 0 ((ls.take (j + 1)).flatten))] <| .w 14 [(0,.val (i6 ((j + 1 : Nat) : Int)))] <| .e) (.e))))) Try.func76 rfl rfl rfl (by kernel_rfl) ?_
 refine tt ⟨rfl,(by omega),?_⟩
 intro i hinv
 have hi := hinv
 refine tt (cd (fun hc12 => ?_) (fun hc12 => ?_))
 · have hi1 : i < ls.length := by omega
   have hf := uT hi1
   have hg := v5 (ls := ls) (i := i + 1)
   rw [hf,List.length_append] at hg
   refine ⟨ix,tt ⟨⟨oK,(by rw [hf,List.length_append,Int.natCast_add]; exact I1 rfl (by omega) (by omega))⟩,tt ⟨(decide_eq_false (by omega)),⟨w6,tt ⟨(i + 1),rfl,(?_ : (i + 1) ≤ ls.length),(?_ : ls.length - (i + 1) < ls.length - i)⟩⟩⟩⟩⟩
   · omega
   · omega
 · have hg := v5 (ls := ls) (i := i)
   refine tt ⟨(Fr ((ls.take i).flatten.length) om),tt ⟨rfl,(by omega),?_⟩⟩
   intro j hinv
   have hj := hinv
   refine tt (cd (fun hc28 => ?_) (fun hc28 => ?_))
   · have hj1 : j < ls.length := by omega
     have hf := uT hj1
     have hg := v5 (ls := ls) (i := j + 1)
     rw [hf,List.length_append] at hg
     refine ⟨ix,tt ⟨⟨by simp only [List.length_map]; omega,by rw [hf,List.map_append]⟩,tt ⟨w6,tt ⟨(j + 1),rfl,(?_ : (j + 1) ≤ ls.length),(?_ : ls.length - (j + 1) < ls.length - j)⟩⟩⟩⟩
     · omega
     · omega
   · refine tt ⟨(congrArg _ (?_ : ((ls.take j).flatten) = ls.flatten)),(fun _ _ => rfl)⟩
     exact Dh (by omega)
end Go.Proofs.Ytckgpflobhpnpaa
