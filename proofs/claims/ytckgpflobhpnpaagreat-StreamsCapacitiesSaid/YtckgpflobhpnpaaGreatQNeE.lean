/-
  Package network: copies of slices, values.
-/
import Derived.Test.YtckgpflobhpnpaaGreatQPrB
import Derived.Test.YtckgpflobhpnpaaGreatQGrw
namespace Go.Proofs.YtckgpflobhpnpaaGreat
open Go.RowKit
set_option linter.unusedVariables false
set_option linter.unusedSimpArgs false
abbrev CA : ao := (.arr 42 1 ac [] ([] : List (List Int)))
abbrev CE : ao := (.arr 3 1 (aa .i64) 0 ([] : List Int))
set_option maxRecDepth 100000
abbrev Nr (l : List Int) : vw := ⟨97,[(LI l)],(.own 0),(.arr 3 1 (aa .i64) 0 l)⟩
theorem AW (l : List Int) (h : l ≠ []) (hl : l.length ≤ 137438953472) : CO (Nr l) := by
 refine ah.vcO (V := TT 2 (l ≠ []∧an [] (([] : List Int).map (aa .i64))∧TT 1 ((([] : List Int).length + (l.map (aa .i64)).length ≤ 137438953472∧([] : List Int).map (aa .i64) ++ l.map (aa .i64) = l.map (aa .i64))∧TT 2 (((.own 0) : D) = .own 0∧((.arr 3 1 (aa .i64) 0 l) : ao) = (.arr 3 1 (aa .i64) 0 l))))) (.w 3 [(0,.box 3 1 (aa .i64) 0 ([] : List Int)),(2,.box 3 1 (aa .i64) 0 l)] <| .e) Tryz.func97 rfl rfl rfl (by kernel_rfl) ?_
 exact tt ⟨(by exact h),⟨oK,tt ⟨⟨by simp only [List.length_map,List.length_nil]; omega,by simp⟩,tt ⟨rfl,rfl⟩⟩⟩⟩
abbrev Nt : vw := ⟨97,[.nils],(.own 0),CE⟩
theorem AX  : CO Nt := by
 refine ah.vcO (V := TT 5 (((.own 0) : D) = .own 0∧([] : List Int) = [])) (.e) Tryz.func97 rfl rfl rfl (by kernel_rfl) ?_
 refine tt ⟨rfl,?_⟩
 rfl
abbrev Nu : vw := ⟨97,[(.v .esl)],(.own 0),CE⟩
theorem AY  : CO Nu := by
 refine ah.vcO (V := TT 3 (an [] (([] : List Int).map (aa .i64))∧TT 1 ((([] : List Int).length + (([] : List (List V))).length ≤ 137438953472∧([] : List Int).map (aa .i64) ++ ([] : List (List V)) = ([] : List Int).map (aa .i64))∧TT 2 (((.own 0) : D) = .own 0∧(CE : ao) = CE)))) (.w 3 [(0,.box 3 1 (aa .i64) 0 ([] : List Int)),(2,.box 3 1 (aa .i64) 0 ([] : List Int))] <| .e) Tryz.func97 rfl rfl rfl (by kernel_rfl) ?_
 exact tt ⟨oK,tt ⟨⟨by simp,by simp⟩,tt ⟨rfl,rfl⟩⟩⟩
abbrev Nv (l : List Int) : vw := ⟨97,[(LI l)],(.own 0),(.arr 3 1 (aa .i64) 0 l)⟩
theorem D0 (l : List Int) (hl : l.length ≤ 137438953472) : CO (Nv l) :=
  ah.nilcases (fun h => AW l h hl) (fun h => by subst h; exact AX) (fun h => by subst h; exact AY)
abbrev Nw (l : List Ps) : vw := ⟨84,[(dL 2 ca bS l)],(.own 0),(.arr 56 2 ca bS l)⟩
theorem AZ (l : List Ps) (h : l ≠ []) (hl : l.length ≤ 137438953472) : CO (Nw l) := by
 refine ah.vcO (V := TT 2 (l ≠ []∧an [] (([] : List Ps).map ca)∧TT 1 ((([] : List Ps).length + (l.map ca).length ≤ 137438953472∧([] : List Ps).map ca ++ l.map ca = l.map ca)∧TT 2 (((.own 0) : D) = .own 0∧((.arr 56 2 ca bS l) : ao) = (.arr 56 2 ca bS l))))) (.w 3 [(0,.box 56 2 ca bS ([] : List Ps)),(2,.box 56 2 ca bS l)] <| .e) Tryz.func84 rfl rfl rfl (by kernel_rfl) ?_
 exact tt ⟨(by exact h),⟨oK,tt ⟨⟨by simp only [List.length_map,List.length_nil]; omega,by simp⟩,tt ⟨rfl,rfl⟩⟩⟩⟩
abbrev Nx : vw := ⟨84,[.nils],(.own 0),(.arr 56 2 ca bS ([] : List Ps))⟩
theorem A1  : CO Nx := by
 refine ah.vcO (V := TT 5 (((.own 0) : D) = .own 0∧([] : List Ps) = [])) (.e) Tryz.func84 rfl rfl rfl (by kernel_rfl) ?_
 refine tt ⟨rfl,?_⟩
 rfl
abbrev Ny : vw := ⟨84,[(.v .esl)],(.own 0),(.arr 56 2 ca bS ([] : List Ps))⟩
theorem A2  : CO Ny := by
 refine ah.vcO (V := TT 3 (an [] (([] : List Ps).map ca)∧TT 1 ((([] : List Ps).length + (([] : List (List V))).length ≤ 137438953472∧([] : List Ps).map ca ++ ([] : List (List V)) = ([] : List Ps).map ca)∧TT 2 (((.own 0) : D) = .own 0∧((.arr 56 2 ca bS ([] : List Ps)) : ao) = (.arr 56 2 ca bS ([] : List Ps)))))) (.w 3 [(0,.box 56 2 ca bS ([] : List Ps)),(2,.box 56 2 ca bS ([] : List Ps))] <| .e) Tryz.func84 rfl rfl rfl (by kernel_rfl) ?_
 exact tt ⟨oK,tt ⟨⟨by simp,by simp⟩,tt ⟨rfl,rfl⟩⟩⟩
abbrev Nz (l : List Ps) : vw := ⟨84,[(dL 2 ca bS l)],(.own 0),(.arr 56 2 ca bS l)⟩
theorem D1 (l : List Ps) (hl : l.length ≤ 137438953472) : CO (Nz l) :=
  ah.nilcases (fun h => AZ l h hl) (fun h => by subst h; exact A1) (fun h => by subst h; exact A2)
abbrev NA (l : List (List Int)) : vw := ⟨85,[(dL 1 ac [] l)],(.own 0),(.arr 42 1 ac [] l)⟩
theorem A3 (l : List (List Int)) (h : l ≠ []) (hl : l.length ≤ 137438953472) : CO (NA l) := by
 refine ah.vcO (V := TT 2 (l ≠ []∧an [] (([] : List (List Int)).map ac)∧TT 1 ((([] : List (List Int)).length + (l.map ac).length ≤ 137438953472∧([] : List (List Int)).map ac ++ l.map ac = l.map ac)∧TT 2 (((.own 0) : D) = .own 0∧((.arr 42 1 ac [] l) : ao) = (.arr 42 1 ac [] l))))) (.w 3 [(0,.box 42 1 ac [] ([] : List (List Int))),(2,.box 42 1 ac [] l)] <| .e) Tryz.func85 rfl rfl rfl (by kernel_rfl) ?_
 exact tt ⟨(by exact h),⟨oK,tt ⟨⟨by simp only [List.length_map,List.length_nil]; omega,by simp⟩,tt ⟨rfl,rfl⟩⟩⟩⟩
abbrev NB : vw := ⟨85,[.nils],(.own 0),CA⟩
theorem A4  : CO NB := by
 refine ah.vcO (V := TT 5 (((.own 0) : D) = .own 0∧([] : List (List Int)) = [])) (.e) Tryz.func85 rfl rfl rfl (by kernel_rfl) ?_
 refine tt ⟨rfl,?_⟩
 rfl
abbrev NC : vw := ⟨85,[(.v .esl)],(.own 0),CA⟩
theorem A5  : CO NC := by
 refine ah.vcO (V := TT 3 (an [] (([] : List (List Int)).map ac)∧TT 1 ((([] : List (List Int)).length + (([] : List (List V))).length ≤ 137438953472∧([] : List (List Int)).map ac ++ ([] : List (List V)) = ([] : List (List Int)).map ac)∧TT 2 (((.own 0) : D) = .own 0∧(CA : ao) = CA)))) (.w 3 [(0,.box 42 1 ac [] ([] : List (List Int))),(2,.box 42 1 ac [] ([] : List (List Int)))] <| .e) Tryz.func85 rfl rfl rfl (by kernel_rfl) ?_
 exact tt ⟨oK,tt ⟨⟨by simp,by simp⟩,tt ⟨rfl,rfl⟩⟩⟩
abbrev ND (l : List (List Int)) : vw := ⟨85,[(dL 1 ac [] l)],(.own 0),(.arr 42 1 ac [] l)⟩
theorem D2 (l : List (List Int)) (hl : l.length ≤ 137438953472) : CO (ND l) :=
  ah.nilcases (fun h => A3 l h hl) (fun h => by subst h; exact A4) (fun h => by subst h; exact A5)
set_option maxHeartbeats 1600000 in
theorem A6 (n : Nat) (hn : n ≤ 137438953472) (w : World) : Calls Tryz.prog 107 #[.slice none 0 0,.int .i64 (n : Int)] w (fun e w' => ∃ v,e = .returned v∧w'.ownsRow 0 3 1 v 0 []∧w.grownBy w' none∧∀ b,aE v = some b → w.heap.size ≤ b) := by
  by_cases h0 : n = 0
  · subst h0
    go_enter Tryz.func107,Tryz.ntmps107
    go_wp2
    go_ret
    exact ⟨_,rfl,World.ownsRow_nil _ 0 _ _,kw w,fun b hb => by simp [aE] at hb⟩
  · have hp : 0 < n := by omega
    have e1 : IntKind.i64.wrap ((n : Int) - (0 - 0)) = (n : Int) := HC rfl (by omega) (by omega)
    have e0 : ¬ ((n : Int) < 0) := by omega
    have e2 : (n : Int) > 0 := by omega
    have hb8 : Tryz.t3.bytes = 8 := rfl
    have hnx : Builtin.nextslicecap n 0 = n := nextslicecap_zero hp
    go_enter Tryz.func107,Tryz.ntmps107
    go_wp2
    all_goals try (exfalso; simp only [hb8,hnx] at *; omega)
    go_ret
    have hK : n ≤ grownCap w n 0 3∧grownCap w n 0 3 ≤ maxLen := ⟨grownCap_ge ..,grownCap_le_maxLen _ _ _ _ (by unfold maxLen; omega)⟩
    refine ⟨_,rfl,World.ownsRow_made w (Builtin.zeroCells #[Value.int IntKind.i64 0] n ++ Builtin.zeroCells #[Value.int IntKind.i64 0] (grownCap w n 0 3 - n)) (grownCap w n 0 3) (Nat.zero_le _) hK.2 ?_,⟨rfl,rfl,rfl,?_,fun k hk _ => ?_⟩,fun b hb => ?_⟩
    · simp [Builtin.zeroCells]; omega
    · simp
    · exact Below.heap_alloc w _ k hk
    · simp [aE] at hb; omega
abbrev Ko (n : Nat) : vw := ⟨107,[.nils,(i6 (n : Int))],.own 0,.arr 3 1 (aa .i64) 0 []⟩
theorem Iu (n : Nat) (hn : n ≤ 137438953472) : CO (Ko n) := by
  refine ah.of_empty (fun S μ w us hu => ?_)
  obtain ⟨h1,h2⟩ := hu
  have h0 : us = #[us[0]'(by simp at h1; omega),us[1]'(by simp at h1; omega)] := by
    apply Array.ext
    · simpa using h1
    · intro i a b
      simp at h1
      have : i = 0 ∨ i = 1 := by omega
      rcases this with rfl | rfl <;> rfl
  have k0 := h2 0 _ (us[0]'(by simp at h1; omega)) rfl (Array.getElem?_eq_getElem _)
  have k1 := h2 1 _ (us[1]'(by simp at h1; omega)) rfl (Array.getElem?_eq_getElem _)
  rw [h0]
  generalize us[0]'(by simp at h1; omega) = x at k0 ⊢
  generalize us[1]'(by simp at h1; omega) = y at k1 ⊢
  cases k0
  rw [bK k1]
  exact A6 n hn w
abbrev NF (ls : List (List Int)) : Ct := ⟨88,[(dL 1 ac [] ls)],false,(LI ls.flatten)⟩
abbrev nx (ls : List (List Int)) : Lp (Nat) := pC [0,3,9,10,11] 0 (fun (i : Nat) => ⟨[(0,(dL 1 ac [] ls)),(3,(i6 (((ls.take i).flatten.length : Nat) : Int))),(9,(dL 1 ac [] ls)),(10,(i6 (ls.length : Int))),(11,(i6 (i : Int)))],[]⟩) (fun (i : Nat) => i ≤ ls.length) (fun (i : Nat) => ls.length - i)
abbrev ny (ls : List (List Int)) : Lp (Nat) := pC [6,25,26,27] 1 (fun (j : Nat) => ⟨[(6,(.own 0)),(25,(dL 1 ac [] ls)),(26,(i6 (ls.length : Int))),(27,(i6 (j : Int)))],[(.arr 3 1 (aa .i64) 0 ((ls.take j).flatten))]⟩) (fun (j : Nat) => j ≤ ls.length) (fun (j : Nat) => ls.length - j)
theorem D3 (ls : List (List Int)) (h1 : ls.length ≤ 1000000) (h2 : ls.flatten.length ≤ 137438953472) : CC (NF ls) := by
 refine ah.vc (V := TT 5 (GO (nx ls) 0 (∀ i,(nx ls).inv i → TT 1 (CD ((i : Int) < (ls.length : Int)) (IX (i : Int) ls.length∧TT 5 ((True∧(IntKind.wrap .i64 ((((ls.take i).flatten.length : Nat) : Int) + (((ls.getD i []).length : Nat) : Int))) = (((ls.take (i + 1)).flatten.length : Nat) : Int))∧TT 3 ((decide ((((ls.take (i + 1)).flatten.length : Nat) : Int) < 0)) = false∧W6 ((i + 1 : Nat) : Int)∧TT 1 (AG (nx ls) i (i + 1))))) (TT 1 (CO (Ko ((ls.take i).flatten.length))∧TT 4 (GO (ny ls) 0 (∀ j,(ny ls).inv j → TT 1 (CD ((j : Int) < (ls.length : Int)) (IX (j : Int) ls.length∧TT 4 ((((ls.take j).flatten).length + ((ls.getD j []).map (aa .i64)).length ≤ 137438953472∧((ls.take j).flatten).map (aa .i64) ++ (ls.getD j []).map (aa .i64) = ((ls.take (j + 1)).flatten).map (aa .i64))∧TT 1 (W6 ((j + 1 : Nat) : Int)∧TT 1 (AG (ny ls) j (j + 1))))) (TT 3 (((ls.take j).flatten).map (aa .i64) = ls.flatten.map (aa .i64)∧((∀ z ∈ ls.flatten,((aa .i64) z).all V.scal = true))))))))))))) (.l (nx ls) 0 (fun i => .b 12 (.w 5 [(3,.val (i6 (((ls.take (i + 1)).flatten.length : Nat) : Int)))] <| .u 20 (.w 8 [(0,.val (i6 ((i + 1 : Nat) : Int)))] <| .e)) (.w 9 [(1,(Ko ((ls.take i).flatten.length)).O)] <| .l (ny ls) 0 (fun j => .b 28 (.w 13 [(2,.box 3 1 (aa .i64) 0 ((ls.take (j + 1)).flatten))] <| .w 14 [(0,.val (i6 ((j + 1 : Nat) : Int)))] <| .e) (.e))))) Tryz.func88 rfl rfl rfl (by kernel_rfl) ?_
 refine tt ⟨rfl,(by omega),?_⟩
 intro i hinv
 have hi := hinv
 refine tt (cd (fun hc12 => ?_) (fun hc12 => ?_))
 · have hi1 : i < ls.length := by omega
   have hf := wH hi1
   have hg := xO (ls := ls) (i := i + 1)
   rw [hf,List.length_append] at hg
   refine ⟨ix,tt ⟨⟨oK,(by rw [hf,List.length_append,Int.natCast_add]; exact HC rfl (by omega) (by omega))⟩,tt ⟨(decide_eq_false (by omega)),⟨w6,tt ⟨(i + 1),rfl,(?_ : (i + 1) ≤ ls.length),(?_ : ls.length - (i + 1) < ls.length - i)⟩⟩⟩⟩⟩
   · omega
   · omega
 · have hg := xO (ls := ls) (i := i)
   refine tt ⟨(Iu ((ls.take i).flatten.length) om),tt ⟨rfl,(by omega),?_⟩⟩
   intro j hinv
   have hj := hinv
   refine tt (cd (fun hc28 => ?_) (fun hc28 => ?_))
   · have hj1 : j < ls.length := by omega
     have hf := wH hj1
     have hg := xO (ls := ls) (i := j + 1)
     rw [hf,List.length_append] at hg
     refine ⟨ix,tt ⟨⟨by simp only [List.length_map]; omega,by rw [hf,List.map_append]⟩,tt ⟨w6,tt ⟨(j + 1),rfl,(?_ : (j + 1) ≤ ls.length),(?_ : ls.length - (j + 1) < ls.length - j)⟩⟩⟩⟩
     · omega
     · omega
   · refine tt ⟨(congrArg _ (?_ : ((ls.take j).flatten) = ls.flatten)),(fun _ _ => rfl)⟩
     exact F5 (by omega)
end Go.Proofs.YtckgpflobhpnpaaGreat
