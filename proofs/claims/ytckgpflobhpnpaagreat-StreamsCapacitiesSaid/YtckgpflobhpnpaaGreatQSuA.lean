/-
  Package streams: own lists of lists.
-/
import Derived.Test.YtckgpflobhpnpaaGreatQNeJ
import Derived.Test.YtckgpflobhpnpaaGreatQStD
namespace Go.Proofs.YtckgpflobhpnpaaGreat
open Go.RowKit
set_option linter.unusedVariables false
set_option linter.unusedSimpArgs false
set_option maxRecDepth 100000
abbrev b8 (l : List (List Int)) (r : Nat) : rp := ⟨3,1,Int,aa .i64,0,l.getD r []⟩
abbrev sO (l : List (List Int)) (k i j : Nat) : D := if i < k then .gr 1 i else jR ac [] (List.replicate l.length []) i j
theorem GD (l : List (List Int)) (k : Nat) : rB 1 l.length k 0 [.own 2] [1,2] (fun i j => sO l k i j) (fun i j => if i = k then .own 2 else sO l k i j) := by
  intro i j hi hj
  have hj0 : j = 0 := by omega
  subst hj0
  refine ⟨by by_cases h : i = k <;> simp [h],fun g hg => ?_⟩
  simp only [List.all_cons,Bool.and_eq_true] at hg
  show D.free g (if i = k then .own 2 else sO l k i 0) = true
  split
  · exact hg.2.1
  · unfold sO
    split
    · exact hg.1
    · rfl
theorem KJ (l : List (List Int)) (k : Nat) : ∀ i j,i < l.length → j < 1 → DF 1 k 2 (if i = k then .own 2 else sO l k i j) (sO l (k + 1) i j) := by
  intro i j hi hj
  by_cases h : i = k
  · subst h
    exact .inl ⟨if_pos rfl,if_pos (Nat.lt_succ_self i)⟩
  · refine .inr ⟨?_,?_⟩
    · rw [if_neg h]; unfold sO; by_cases h2 : i < k
      · rw [if_pos h2,if_pos (by omega)]
      · rw [if_neg h2,if_neg (by omega)]
    · rw [if_neg h]; unfold sO; by_cases h2 : i < k
      · rw [if_pos h2]; exact .inl ⟨i,rfl,h⟩
      · rw [if_neg h2]; exact .inr (.inl ⟨_,rfl⟩)
theorem IB (l : List (List Int)) (k i j q : Nat) (hq : [1].all (fun g => !(Nat.beq g q)) = true) : (sO l k i j).free q = true := by
  unfold sO
  split
  · simpa [D.free] using hq
  · rfl
theorem GE (l : List (List Int)) {k : Nat} (h : l.length ≤ k) : ∀ i j,i < l.length → j < 1 → AF 1 (sO l k i j) (.me i) := by
  intro i j hi hj
  exact .inl ⟨i,if_pos (by omega),rfl⟩
abbrev KK (l : List (List Int)) : vw := ⟨66,[(dL 1 ac [] l)],(.gr 0 0),(.nest 42 1 l.length (fun i _ => .me i) l.length (b8 l))⟩
abbrev kR (l : List (List Int)) : Lp (Nat) := pC [0,3,9,10] 2 (fun (k : Nat) => ⟨[(0,(dL 1 ac [] l)),(3,(.own 0)),(9,(i6 (l.length : Int))),(10,(i6 (k : Int)))],[(.arrD 42 1 l.length [1] (fun i j => sO l k i j)),(.grp k (b8 l))]⟩) (fun (k : Nat) => k ≤ l.length) (fun (k : Nat) => l.length - k)
theorem pP (l : List (List Int)) (hl : l.length ≤ 100000) (hs : ∀ z ∈ l,z.length ≤ 100000) : CO (KK l) := by
 refine ah.vcO (V := TT 3 ((((0 : Int) ≤ (l.length : Int)∧(l.length : Int) ≤ (l.length : Int)∧(l.length : Int) ≤ 137438953472)∧(List.replicate l.length ([] : List Int)).length = l.length∧∀ x ∈ (List.replicate l.length ([] : List Int)),db [.nils] (ac x))∧TT 3 ((l.length = (List.replicate l.length ([] : List Int)).length∧∀ i j,i < l.length → j < 1 → sO l 0 i j = jR ac [] (List.replicate l.length []) i j∧∀ k,[1].all (fun g => !(Nat.beq g k)) = true → (sO l 0 i j).free k = true)∧TT 3 (GO (kR l) 0 (∀ k,(kR l).inv k → TT 1 (CD ((k : Int) < (l.length : Int)) (TT 6 (IX (k : Int) l.length∧TT 1 (CO (Nv (l.getD k []))∧IX (k : Int) l.length∧(k < l.length∧rB 1 l.length k 0 [(.own 2)] [1,2] (fun i j => sO l k i j) (fun i j => if i = k then .own 2 else sO l k i j))∧(k ≤ k∧k + 1 = max k (k + 1)∧(∀ q,q < k + 1 → b8 l q = if q = k then b8 l k else b8 l q)∧∀ i j,i < l.length → j < 1 → DF 1 k 2 (if i = k then .own 2 else sO l k i j) (sO l (k + 1) i j))∧(l.length = l.length∧∀ i j,i < l.length → j < 1 → sO l (k + 1) i j = sO l (k + 1) i j∧∀ q,[1].all (fun g => !(Nat.beq g q)) = true → (sO l (k + 1) i j).free q = true)∧W6 ((k + 1 : Nat) : Int)∧TT 1 (AG (kR l) k (k + 1))))) ((l.length = k∧∀ q,q < l.length → b8 l q = b8 l q)∧(∀ i j,i < l.length → j < 1 → AF 1 (sO l k i j) (.me i))∧TT 3 (((.gr 0 0) : D) = .gr 0 0∧((.nest 42 1 l.length (fun i _ => .me i) l.length (b8 l)) : ao) = (.nest 42 1 l.length (fun i _ => .me i) l.length (b8 l)))))))))) (.w 1 [(2,.box 42 1 ac [] (List.replicate l.length ([] : List Int)))] <| .gh 2 (Og 0) <| .gh 2 (MX (b8 l)) <| .gh 2 (jy 0 l.length [1] (fun i j => sO l 0 i j)) <| .l (kR l) 0 (fun k => .b 11 (.w 5 [(6,(Nv (l.getD k [])).O),(8,.cells [1,2] (fun i j => if i = k then .own 2 else sO l k i j))] <| .gh 6 (put 0 1 2 k (k + 1) (fun i j => sO l (k + 1) i j) (b8 l)) <| .gh 6 (jy 0 l.length [1] (fun i j => sO l (k + 1) i j)) <| .w 6 [(0,.val (i6 ((k + 1 : Nat) : Int)))] <| .e) (.gh 7 (Fa 1 l.length (b8 l)) <| .gh 7 (LG 0 1 (fun i _ => .me i)) <| .e))) Tryz.func66 rfl rfl rfl (by kernel_rfl) ?_
 refine tt ⟨⟨by omega,List.length_replicate,fun x hx => by rw [List.eq_of_mem_replicate hx]; exact ⟨rfl,oK⟩⟩,tt ⟨⟨(List.length_replicate ..).symm,fun i j _ _ => ⟨rfl,fun _ _ => rfl⟩⟩,tt ⟨rfl,(Nat.zero_le _),?_⟩⟩⟩
 intro k hinv
 have hk := hinv
 refine tt (cd (fun hc11 => ?_) (fun hc11 => ?_))
 · have hz : (l.getD k []).length ≤ 100000 := by rw [List.getD_eq_getElem?_getD,List.getElem?_eq_getElem (by omega)]; exact hs _ (List.getElem_mem _)
   refine tt ⟨ix,tt ⟨(D0 (l.getD k []) om),⟨ix,⟨⟨by omega,GD l k⟩,⟨⟨Nat.le_refl k,by omega,fun q _ => by split <;> simp_all,KJ l k⟩,⟨⟨rfl,fun i j _ _ => ⟨rfl,fun q hq => IB l _ i j q hq⟩⟩,⟨w6,tt ⟨(k + 1),rfl,(?_ : (k + 1) ≤ l.length),(?_ : l.length - (k + 1) < l.length - k)⟩⟩⟩⟩⟩⟩⟩⟩
   · omega
   · omega
 · exact ⟨⟨by omega,fun _ _ => rfl⟩,⟨GE l (by omega),tt ⟨rfl,rfl⟩⟩⟩
end Go.Proofs.YtckgpflobhpnpaaGreat
