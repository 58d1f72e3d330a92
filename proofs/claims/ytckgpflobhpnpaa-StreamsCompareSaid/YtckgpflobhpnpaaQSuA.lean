/-
  Package streams: own lists of lists.
-/
import Derived.Test.YtckgpflobhpnpaaQNeJ
import Derived.Test.YtckgpflobhpnpaaQStD
namespace Go.Proofs.Ytckgpflobhpnpaa
open Go.RowKit
set_option linter.unusedVariables false
set_option linter.unusedSimpArgs false
set_option maxRecDepth 100000
abbrev bU (l : List (List Int)) (r : Nat) : pY := ⟨3,1,Int,ae .i64,0,l.getD r []⟩
abbrev qZ (l : List (List Int)) (k i j : Nat) : D := if i < k then .gr 1 i else jp aa [] (List.replicate l.length []) i j
theorem DF (l : List (List Int)) (k : Nat) : qc 1 l.length k 0 [.own 2] [1,2] (fun i j => qZ l k i j) (fun i j => if i = k then .own 2 else qZ l k i j) := by
  intro i j hi hj
  have hj0 : j = 0 := by omega
  subst hj0
  refine ⟨by by_cases h : i = k <;> simp [h],fun g hg => ?_⟩
  simp only [List.all_cons,Bool.and_eq_true] at hg
  show D.free g (if i = k then .own 2 else qZ l k i 0) = true
  split
  · exact hg.2.1
  · unfold qZ
    split
    · exact hg.1
    · rfl
theorem Hc (l : List (List Int)) (k : Nat) : ∀ i j,i < l.length → j < 1 → A9 1 k 2 (if i = k then .own 2 else qZ l k i j) (qZ l (k + 1) i j) := by
  intro i j hi hj
  by_cases h : i = k
  · subst h
    exact .inl ⟨if_pos rfl,if_pos (Nat.lt_succ_self i)⟩
  · refine .inr ⟨?_,?_⟩
    · rw [if_neg h]; unfold qZ; by_cases h2 : i < k
      · rw [if_pos h2,if_pos (by omega)]
      · rw [if_neg h2,if_neg (by omega)]
    · rw [if_neg h]; unfold qZ; by_cases h2 : i < k
      · rw [if_pos h2]; exact .inl ⟨i,rfl,h⟩
      · rw [if_neg h2]; exact .inr (.inl ⟨_,rfl⟩)
theorem Fx (l : List (List Int)) (k i j q : Nat) (hq : [1].all (fun g => !(Nat.beq g q)) = true) : (qZ l k i j).free q = true := by
  unfold qZ
  split
  · simpa [D.free] using hq
  · rfl
theorem DG (l : List (List Int)) {k : Nat} (h : l.length ≤ k) : ∀ i j,i < l.length → j < 1 → yx 1 (qZ l k i j) (.me i) := by
  intro i j hi hj
  exact .inl ⟨i,if_pos (by omega),rfl⟩
abbrev He (l : List (List Int)) : tD := ⟨35,[(dL 1 aa [] l)],(.gr 0 0),(.nest 37 1 l.length (fun i _ => .me i) l.length (bU l))⟩
abbrev kh (l : List (List Int)) : Lp (Nat) := pT [0,3,9,10] 2 (fun (k : Nat) => ⟨[(0,(dL 1 aa [] l)),(3,(.own 0)),(9,(i6 (l.length : Int))),(10,(i6 (k : Int)))],[(.arrD 37 1 l.length [1] (fun i j => qZ l k i j)),(.grp k (bU l))]⟩) (fun (k : Nat) => k ≤ l.length) (fun (k : Nat) => l.length - k)
theorem oz (l : List (List Int)) (hl : l.length ≤ 100000) (hs : ∀ z ∈ l,z.length ≤ 100000) : CO (He l) := by
 refine ai.vcO (V := TT 3 ((((0 : Int) ≤ (l.length : Int)∧(l.length : Int) ≤ (l.length : Int)∧(l.length : Int) ≤ 137438953472)∧(List.replicate l.length ([] : List Int)).length = l.length∧∀ x ∈ (List.replicate l.length ([] : List Int)),cP [.nils] (aa x))∧TT 3 ((l.length = (List.replicate l.length ([] : List Int)).length∧∀ i j,i < l.length → j < 1 → qZ l 0 i j = jp aa [] (List.replicate l.length []) i j∧∀ k,[1].all (fun g => !(Nat.beq g k)) = true → (qZ l 0 i j).free k = true)∧TT 3 (GO (kh l) 0 (∀ k,(kh l).inv k → TT 1 (CD ((k : Int) < (l.length : Int)) (TT 6 (IX (k : Int) l.length∧TT 1 (CO (Jq (l.getD k []))∧IX (k : Int) l.length∧(k < l.length∧qc 1 l.length k 0 [(.own 2)] [1,2] (fun i j => qZ l k i j) (fun i j => if i = k then .own 2 else qZ l k i j))∧(k ≤ k∧k + 1 = max k (k + 1)∧(∀ q,q < k + 1 → bU l q = if q = k then bU l k else bU l q)∧∀ i j,i < l.length → j < 1 → A9 1 k 2 (if i = k then .own 2 else qZ l k i j) (qZ l (k + 1) i j))∧(l.length = l.length∧∀ i j,i < l.length → j < 1 → qZ l (k + 1) i j = qZ l (k + 1) i j∧∀ q,[1].all (fun g => !(Nat.beq g q)) = true → (qZ l (k + 1) i j).free q = true)∧W6 ((k + 1 : Nat) : Int)∧TT 1 (AG (kh l) k (k + 1))))) ((l.length = k∧∀ q,q < l.length → bU l q = bU l q)∧(∀ i j,i < l.length → j < 1 → yx 1 (qZ l k i j) (.me i))∧TT 3 (((.gr 0 0) : D) = .gr 0 0∧((.nest 37 1 l.length (fun i _ => .me i) l.length (bU l)) : aj) = (.nest 37 1 l.length (fun i _ => .me i) l.length (bU l)))))))))) (.w 1 [(2,.box 37 1 aa [] (List.replicate l.length ([] : List Int)))] <| .gh 2 (JZ 0) <| .gh 2 (I2 (bU l)) <| .gh 2 (i4 0 l.length [1] (fun i j => qZ l 0 i j)) <| .l (kh l) 0 (fun k => .b 11 (.w 5 [(6,(Jq (l.getD k [])).O),(8,.cells [1,2] (fun i j => if i = k then .own 2 else qZ l k i j))] <| .gh 6 (put 0 1 2 k (k + 1) (fun i j => qZ l (k + 1) i j) (bU l)) <| .gh 6 (i4 0 l.length [1] (fun i j => qZ l (k + 1) i j)) <| .w 6 [(0,.val (i6 ((k + 1 : Nat) : Int)))] <| .e) (.gh 7 (Cr 1 l.length (bU l)) <| .gh 7 (HV 0 1 (fun i _ => .me i)) <| .e))) Try.func35 rfl rfl rfl (by kernel_rfl) ?_
 refine tt ⟨⟨by omega,List.length_replicate,fun x hx => by rw [List.eq_of_mem_replicate hx]; exact ⟨rfl,oK⟩⟩,tt ⟨⟨(List.length_replicate ..).symm,fun i j _ _ => ⟨rfl,fun _ _ => rfl⟩⟩,tt ⟨rfl,(Nat.zero_le _),?_⟩⟩⟩
 intro k hinv
 have hk := hinv
 refine tt (cd (fun hc11 => ?_) (fun hc11 => ?_))
 · have hz : (l.getD k []).length ≤ 100000 := by rw [List.getD_eq_getElem?_getD,List.getElem?_eq_getElem (by omega)]; exact hs _ (List.getElem_mem _)
   refine tt ⟨ix,tt ⟨(Br (l.getD k []) om),⟨ix,⟨⟨by omega,DF l k⟩,⟨⟨Nat.le_refl k,by omega,fun q _ => by split <;> simp_all,Hc l k⟩,⟨⟨rfl,fun i j _ _ => ⟨rfl,fun q hq => Fx l _ i j q hq⟩⟩,⟨w6,tt ⟨(k + 1),rfl,(?_ : (k + 1) ≤ l.length),(?_ : l.length - (k + 1) < l.length - k)⟩⟩⟩⟩⟩⟩⟩⟩
   · omega
   · omega
 · exact ⟨⟨by omega,fun _ _ => rfl⟩,⟨DG l (by omega),tt ⟨rfl,rfl⟩⟩⟩
end Go.Proofs.Ytckgpflobhpnpaa
