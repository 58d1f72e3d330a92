/-
  BitsParts.
-/
import Derived.Test.YtaghhicmnalmmaaBitJ
import Derived.Test.YtaghhicmnalmmaaBitR
namespace Go.Proofs.Ytaghhicmnalmmaa
open Go.RowKit
set_option linter.unusedVariables false
set_option linter.unusedSimpArgs false
abbrev ym0 (k0 k1 k2 : Nat) : List Box := [(.var 49 [(dI .u8 ((k0 : Nat) : Int)),(dI .u8 ((k1 : Nat) : Int)),(dI .u8 ((k2 : Nat) : Int))])]
abbrev ym1 (p : Nat) : D := (i6 ((p : Nat) : Int))
abbrev ym2 (n : Nat) : D := (i6 ((n : Nat) : Int))
abbrev ym3 (m : Nat) : D := (i6 ((m : Nat) : Int))
abbrev ym4 (q : Nat) : D := (i6 ((q : Nat) : Int))

set_option maxRecDepth 100000 in
theorem parts_law (a b k0 k1 k2 : Nat) (ha : a ≤ 255) (hb : b ≤ 255) (hk0 : k0 ≤ 255) (hk1 : k1 ≤ 255) (hk2 : k2 ≤ 255) : CallOk Try.prog 6 [(dI .u8 ((a : Nat) : Int)),(dI .u8 ((b : Nat) : Int)),(.agg [(dI .u8 ((k0 : Nat) : Int)),(dI .u8 ((k1 : Nat) : Int)),(dI .u8 ((k2 : Nat) : Int))])] [] false (dB true) [] := by
  refine CallOk.of_ev Try.func6 rfl rfl rfl ?_
  rintro ⟨_,W,S0,_,susp,_⟩ rfl rfl rfl
  refine Ev.seq ?_
  refine Ev.reg [] [0,1,5] (st' := ⟨[(0,(dI .u8 ((a : Nat) : Int))),(1,(dI .u8 ((b : Nat) : Int))),(5,(.ptr 0 0 0 0))],(ym0 k0 k1 k2)⟩)
    (p := T2 True) (by kernel_rfl)
    ⟨oK,oK,oK⟩ ?_
  refine Ev.seq ?_
  refine Ev.reg [(0,.call none false (dB true))] [0,1,5,7] (st' := ⟨[(0,(dI .u8 ((a : Nat) : Int))),(1,(dI .u8 ((b : Nat) : Int))),(5,(.ptr 0 0 0 0)),(7,(dB true))],(ym0 k0 k1 k2)⟩)
    (p := callOb Try.prog 9 (ym0 k0 k1 k2) [] none false (dB true)∧True∧True) (by kernel_rfl)
    ⟨examples_ok,oK,oK⟩ ?_
  refine Ev.seq ?_
  refine Ev.seq ?_
  refine Ev.reg [] [0,1,5,7,17] (st' := ⟨[(0,(dI .u8 ((a : Nat) : Int))),(1,(dI .u8 ((b : Nat) : Int))),(5,(.ptr 0 0 0 0)),(7,(dB true)),(17,(dB false))],(ym0 k0 k1 k2)⟩)
    (p := T2 True) (by kernel_rfl)
    ⟨oK,oK,oK⟩ ?_
  refine Ev.cond false rfl (fun h => (by cases h)) (fun _ => ?_)
  refine Ev.skip ?_
  refine Ev.seq ?_
  obtain ⟨n,hn⟩ : ∃ n,n = 1 + k0 % 7 := ⟨_,rfl⟩
  have hn1 : 1 ≤ n∧n ≤ 7 := by omega
  refine Ev.reg [(2,.val (dI .u8 ((k0 % 7 : Nat) : Int))),(3,.val (i6 ((k0 % 7 : Nat) : Int))),(4,.val (ym2 n))] [0,1,5,7,8] (st' := ⟨[(0,(dI .u8 ((a : Nat) : Int))),(1,(dI .u8 ((b : Nat) : Int))),(5,(.ptr 0 0 0 0)),(7,(dB true)),(8,(ym2 n))],(ym0 k0 k1 k2)⟩)
    (p := ((0 ≤ (0 : Int)∧0 < (3 : Int))∧True)∧True∧((7 : Int) ≠ 0∧(Int.tmod ((k0 : Nat) : Int) 7) = ((k0 % 7 : Nat) : Int))∧(True∧(IntKind.wrap .i64 ((k0 % 7 : Nat) : Int)) = ((k0 % 7 : Nat) : Int))∧(True∧(IntKind.wrap .i64 (1 + ((k0 % 7 : Nat) : Int))) = ((n : Nat) : Int))∧True∧True) (by kernel_rfl)
    ⟨⟨by omega,oK⟩,oK,⟨(by first | omega | (simp; first | done | omega)),(tmodN _ 7)⟩,⟨oK,(w64 rfl (by first | omega | (simp; first | done | omega)) (by first | omega | (simp; first | done | omega)))⟩,⟨oK,(w64n (by omega) (by omega))⟩,oK,oK⟩ ?_
  refine Ev.seq ?_
  have h8n : 0 < 8 - n := by omega
  have hml := Nat.mod_lt k1 h8n
  obtain ⟨m,hm⟩ : ∃ m,m = 1 + k1 % (8 - n) := ⟨_,rfl⟩
  have hm1 : 1 ≤ m∧n + m ≤ 8 := by omega
  refine Ev.reg [(2,.val (i6 ((k1 : Nat) : Int))),(4,.val (i6 ((8 - n : Nat) : Int))),(5,.val (i6 ((k1 % (8 - n) : Nat) : Int))),(6,.val (ym3 m))] [0,1,5,7,8,9] (st' := ⟨[(0,(dI .u8 ((a : Nat) : Int))),(1,(dI .u8 ((b : Nat) : Int))),(5,(.ptr 0 0 0 0)),(7,(dB true)),(8,(ym2 n)),(9,(ym3 m))],(ym0 k0 k1 k2)⟩)
    (p := ((0 ≤ (1 : Int)∧1 < (3 : Int))∧True)∧True∧(True∧(IntKind.wrap .i64 ((k1 : Nat) : Int)) = ((k1 : Nat) : Int))∧True∧(True∧(IntKind.wrap .i64 (8 - ((n : Nat) : Int))) = ((8 - n : Nat) : Int))∧(((8 - n : Nat) : Int) ≠ 0∧(Int.tmod ((k1 : Nat) : Int) ((8 - n : Nat) : Int)) = ((k1 % (8 - n) : Nat) : Int))∧(True∧(IntKind.wrap .i64 (1 + ((k1 % (8 - n) : Nat) : Int))) = ((m : Nat) : Int))∧True∧True) (by kernel_rfl)
    ⟨⟨by omega,oK⟩,oK,⟨oK,(w64 rfl (by first | omega | (simp; first | done | omega)) (by first | omega | (simp; first | done | omega)))⟩,oK,⟨oK,(w64n (by omega) (by omega))⟩,⟨(by first | omega | (simp; first | done | omega)),(tmodN _ _)⟩,⟨oK,(w64n (by omega) (by omega))⟩,oK,oK⟩ ?_
  refine Ev.seq ?_
  obtain ⟨p,hp⟩ : ∃ p,p = a % 2 ^ n := ⟨_,rfl⟩
  obtain ⟨q,hq⟩ : ∃ q,q = b % 2 ^ m := ⟨_,rfl⟩
  have hpl : p < 2 ^ n := by rw [hp]; exact Nat.mod_lt _ (Nat.two_pow_pos n)
  have hql : q < 2 ^ m := by rw [hq]; exact Nat.mod_lt _ (Nat.two_pow_pos m)
  have h256 : 2 ^ n ≤ 256 := pow_le256 (by omega)
  have h257 : 2 ^ m ≤ 256 := pow_le256 (by omega)
  refine Ev.reg [(1,.val (i6 ((a : Nat) : Int))),(3,.call none false (i6 ((2 ^ n - 1 : Nat) : Int))),(4,.val (ym1 p)),(6,.val (i6 ((b : Nat) : Int))),(8,.call none false (i6 ((2 ^ m - 1 : Nat) : Int))),(9,.val (ym4 q))] [5,7,8,9,10,11] (st' := ⟨[(5,(.ptr 0 0 0 0)),(7,(dB true)),(8,(ym2 n)),(9,(ym3 m)),(10,(ym1 p)),(11,(ym4 q))],(ym0 k0 k1 k2)⟩)
    (p := True∧(True∧(IntKind.wrap .i64 ((a : Nat) : Int)) = ((a : Nat) : Int))∧True∧callOb Try.prog 14 (ym0 k0 k1 k2) [(ym2 n)] none false (i6 ((2 ^ n - 1 : Nat) : Int))∧(True∧(IntKind.wrap .i64 (BitVec.ofInt (IntKind.i64).bits ((a : Nat) : Int) &&& BitVec.ofInt (IntKind.i64).bits ((2 ^ n - 1 : Nat) : Int)).toNat) = ((p : Nat) : Int))∧True∧(True∧(IntKind.wrap .i64 ((b : Nat) : Int)) = ((b : Nat) : Int))∧True∧callOb Try.prog 14 (ym0 k0 k1 k2) [(ym3 m)] none false (i6 ((2 ^ m - 1 : Nat) : Int))∧(True∧(IntKind.wrap .i64 (BitVec.ofInt (IntKind.i64).bits ((b : Nat) : Int) &&& BitVec.ofInt (IntKind.i64).bits ((2 ^ m - 1 : Nat) : Int)).toNat) = ((q : Nat) : Int))∧T2 True) (by kernel_rfl)
    ⟨oK,⟨oK,(w64 rfl (by first | omega | (simp; first | done | omega)) (by first | omega | (simp; first | done | omega)))⟩,oK,(CallOk.to (x := maskF ((n : Nat) : Int)) (maskN (by omega)) (mask_ok _)),⟨oK,(by rw [mask_and2 (by omega)]; rw [hp])⟩,oK,⟨oK,(w64 rfl (by first | omega | (simp; first | done | omega)) (by first | omega | (simp; first | done | omega)))⟩,oK,(CallOk.to (x := maskF ((m : Nat) : Int)) (maskN (by omega)) (mask_ok _)),⟨oK,(by rw [mask_and2 (by omega)]; rw [hq])⟩,oK,oK,oK⟩ ?_
  refine Ev.seq ?_
  obtain ⟨c,hc⟩ : ∃ c,c = p * 2 ^ m + q := ⟨_,rfl⟩
  have hcl : c < 2 ^ (n + m) := by rw [hc]; exact cat_lt hpl hql
  have h258 : 2 ^ (n + m) ≤ 256 := pow_le256 (by omega)
  refine Ev.reg [(6,.call none false (i6 ((c : Nat) : Int)))] [5,7,8,9,10,11,12] (st' := ⟨[(5,(.ptr 0 0 0 0)),(7,(dB true)),(8,(ym2 n)),(9,(ym3 m)),(10,(ym1 p)),(11,(ym4 q)),(12,(i6 ((c : Nat) : Int)))],(ym0 k0 k1 k2)⟩)
    (p := T6 (callOb Try.prog 24 (ym0 k0 k1 k2) [(.agg [(ym2 n),(ym3 m)]),(.agg [(ym1 p),(ym4 q)])] none false (i6 ((c : Nat) : Int))∧True∧True)) (by kernel_rfl)
    ⟨oK,oK,oK,oK,oK,oK,(CallOk.to (x := appF 11 [((n : Nat) : Int),((m : Nat) : Int)] [((p : Nat) : Int),((q : Nat) : Int)]) (by rw [app_cat (by omega) (by omega) (by omega) hpl hql,hc]) (cat_law _ _ _ _)),oK,oK⟩ ?_
  refine Ev.seq ?_
  refine Ev.seq ?_
  refine Ev.reg [(3,.val (i6 ((n + m : Nat) : Int))),(6,.call none false (ym4 q)),(8,.val (dB false)),(13,.val (i6 ((n + m : Nat) : Int))),(17,.call none false (ym1 p)),(19,.val (dB false)),(28,.val (i6 ((n + m : Nat) : Int))),(32,.call none false (ym1 p)),(36,.val (i6 ((n + m : Nat) : Int))),(39,.call none false (ym4 q)),(41,.call none false (i6 ((c : Nat) : Int))),(43,.val (dB false))] [5,7,8,10,91] (st' := ⟨[(5,(.ptr 0 0 0 0)),(7,(dB true)),(8,(ym2 n)),(10,(ym1 p)),(91,(dB false))],(ym0 k0 k1 k2)⟩)
    (p := T3 ((True∧(IntKind.wrap .i64 (((n : Nat) : Int) + ((m : Nat) : Int))) = ((n + m : Nat) : Int))∧T2 (callOb Try.prog 25 (ym0 k0 k1 k2) [(i6 ((c : Nat) : Int)),(i6 ((n + m : Nat) : Int)),(.agg [(i6 0),(ym3 m)])] none false (ym4 q)∧True∧(True∧(((q : Nat) : Int) != ((q : Nat) : Int)) = false)∧T4 ((True∧(IntKind.wrap .i64 (((n : Nat) : Int) + ((m : Nat) : Int))) = ((n + m : Nat) : Int))∧T3 (callOb Try.prog 25 (ym0 k0 k1 k2) [(i6 ((c : Nat) : Int)),(i6 ((n + m : Nat) : Int)),(.agg [(ym3 m),(ym2 n)])] none false (ym1 p)∧True∧(True∧(((p : Nat) : Int) != ((p : Nat) : Int)) = false)∧T8 ((True∧(IntKind.wrap .i64 (((n : Nat) : Int) + ((m : Nat) : Int))) = ((n + m : Nat) : Int))∧T3 (callOb Try.prog 25 (ym0 k0 k1 k2) [(i6 ((c : Nat) : Int)),(i6 ((n + m : Nat) : Int)),(.agg [(ym3 m),(ym2 n)])] none false (ym1 p)∧T3 ((True∧(IntKind.wrap .i64 (((n : Nat) : Int) + ((m : Nat) : Int))) = ((n + m : Nat) : Int))∧T2 (callOb Try.prog 25 (ym0 k0 k1 k2) [(i6 ((c : Nat) : Int)),(i6 ((n + m : Nat) : Int)),(.agg [(i6 0),(ym3 m)])] none false (ym4 q)∧True∧callOb Try.prog 24 (ym0 k0 k1 k2) [(.agg [(ym2 n),(ym3 m)]),(.agg [(ym1 p),(ym4 q)])] none false (i6 ((c : Nat) : Int))∧True∧(True∧(((c : Nat) : Int) != ((c : Nat) : Int)) = false)∧True∧True))))))))) (by kernel_rfl)
    ⟨oK,oK,oK,⟨oK,(w64n (by first | rfl | simp | omega) (by first | omega | (simp; first | done | omega)))⟩,oK,oK,(CallOk.to (x := sliF ((c : Nat) : Int) ((n + m : Nat) : Int) 0 ((m : Nat) : Int)) (Eq.trans (sli_val (v := c) (w := n + m) (k := 0) (n := m) (by omega) (by omega) hcl) (by rw [hc,cat_lo hql])) (slice_law _ _ _ _)),oK,⟨oK,(by simp)⟩,oK,oK,oK,oK,⟨oK,(w64n (by first | rfl | simp | omega) (by first | omega | (simp; first | done | omega)))⟩,oK,oK,oK,(CallOk.to (x := sliF ((c : Nat) : Int) ((n + m : Nat) : Int) ((m : Nat) : Int) ((n : Nat) : Int)) (Eq.trans (sli_val (v := c) (w := n + m) (k := m) (n := n) (by omega) (by omega) hcl) (by rw [hc,cat_hi hpl hql])) (slice_law _ _ _ _)),oK,⟨oK,(by simp)⟩,oK,oK,oK,oK,oK,oK,oK,oK,⟨oK,(w64n (by first | rfl | simp | omega) (by first | omega | (simp; first | done | omega)))⟩,oK,oK,oK,(CallOk.to (x := sliF ((c : Nat) : Int) ((n + m : Nat) : Int) ((m : Nat) : Int) ((n : Nat) : Int)) (Eq.trans (sli_val (v := c) (w := n + m) (k := m) (n := n) (by omega) (by omega) hcl) (by rw [hc,cat_hi hpl hql])) (slice_law _ _ _ _)),oK,oK,oK,⟨oK,(w64n (by first | rfl | simp | omega) (by first | omega | (simp; first | done | omega)))⟩,oK,oK,(CallOk.to (x := sliF ((c : Nat) : Int) ((n + m : Nat) : Int) 0 ((m : Nat) : Int)) (Eq.trans (sli_val (v := c) (w := n + m) (k := 0) (n := m) (by omega) (by omega) hcl) (by rw [hc,cat_lo hql])) (slice_law _ _ _ _)),oK,(CallOk.to (x := appF 11 [((n : Nat) : Int),((m : Nat) : Int)] [((p : Nat) : Int),((q : Nat) : Int)]) (by rw [app_cat (by omega) (by omega) (by omega) hpl hql,hc]) (cat_law _ _ _ _)),oK,⟨oK,(by simp)⟩,oK,oK⟩ ?_
  refine Ev.cond false rfl (fun h => (by cases h)) (fun _ => ?_)
  refine Ev.skip ?_
  refine Ev.seq ?_
  have h9n : 0 < 9 - n := by omega
  have hwl := Nat.mod_lt k2 h9n
  obtain ⟨w,hw⟩ : ∃ w,w = n + k2 % (9 - n) := ⟨_,rfl⟩
  have hw1 : n ≤ w∧w ≤ 8 := by omega
  have hpw : p < 2 ^ w := Nat.lt_of_lt_of_le hpl (Nat.pow_le_pow_right (by omega) hw1.1)
  refine Ev.reg [(3,.val (i6 ((k2 : Nat) : Int))),(5,.val (i6 ((9 - n : Nat) : Int))),(6,.val (i6 ((k2 % (9 - n) : Nat) : Int))),(7,.val (i6 ((w : Nat) : Int)))] [7,8,10,13] (st' := ⟨[(7,(dB true)),(8,(ym2 n)),(10,(ym1 p)),(13,(i6 ((w : Nat) : Int)))],(ym0 k0 k1 k2)⟩)
    (p := True∧((0 ≤ (2 : Int)∧2 < (3 : Int))∧True)∧True∧(True∧(IntKind.wrap .i64 ((k2 : Nat) : Int)) = ((k2 : Nat) : Int))∧True∧(True∧(IntKind.wrap .i64 (9 - ((n : Nat) : Int))) = ((9 - n : Nat) : Int))∧(((9 - n : Nat) : Int) ≠ 0∧(Int.tmod ((k2 : Nat) : Int) ((9 - n : Nat) : Int)) = ((k2 % (9 - n) : Nat) : Int))∧(True∧(IntKind.wrap .i64 (((n : Nat) : Int) + ((k2 % (9 - n) : Nat) : Int))) = ((w : Nat) : Int))∧True∧True) (by kernel_rfl)
    ⟨oK,⟨by omega,oK⟩,oK,⟨oK,(w64 rfl (by first | omega | (simp; first | done | omega)) (by first | omega | (simp; first | done | omega)))⟩,oK,⟨oK,(w64n (by omega) (by omega))⟩,⟨(by first | omega | (simp; first | done | omega)),(tmodN _ _)⟩,⟨oK,(w64n (by omega) (by omega))⟩,oK,oK⟩ ?_
  refine Ev.seq ?_
  refine Ev.reg [(3,.call none false (ym1 p))] [7,8,10,13,14] (st' := ⟨[(7,(dB true)),(8,(ym2 n)),(10,(ym1 p)),(13,(i6 ((w : Nat) : Int))),(14,(ym1 p))],(ym0 k0 k1 k2)⟩)
    (p := T3 (callOb Try.prog 26 (ym0 k0 k1 k2) [(ym1 p),(ym2 n),(i6 ((w : Nat) : Int))] none false (ym1 p)∧True∧True)) (by kernel_rfl)
    ⟨oK,oK,oK,(CallOk.to (x := extF ((p : Nat) : Int) ((n : Nat) : Int) ((w : Nat) : Int)) (ext_val (by omega) (by omega) hpl) (ext_law _ _ _)),oK,oK⟩ ?_
  refine Ev.seq ?_
  rcases (show w = n ∨ n < w from by omega) with hwn | hwn
  · skip
    refine Ev.reg [(2,.val (dB true)),(8,.call none false (ym1 p)),(10,.val (dB true)),(15,.val (dB true))] [6] (st' := ⟨[(6,(dB true))],(ym0 k0 k1 k2)⟩)
      (p := T2 ((True∧(((p : Nat) : Int) == ((p : Nat) : Int)) = true)∧T5 (callOb Try.prog 25 (ym0 k0 k1 k2) [(ym1 p),(i6 ((w : Nat) : Int)),(.agg [(i6 0),(ym2 n)])] none false (ym1 p)∧True∧(True∧(((p : Nat) : Int) == ((p : Nat) : Int)) = true)∧T4 ((True∧(((w : Nat) : Int) == ((n : Nat) : Int)) = true)∧T9 (T7 True))))) (by kernel_rfl)
      ⟨oK,oK,⟨oK,(by simp)⟩,oK,oK,oK,oK,oK,(CallOk.to (x := sliF ((p : Nat) : Int) ((w : Nat) : Int) 0 ((n : Nat) : Int)) (Eq.trans (sli_val (v := p) (w := w) (k := 0) (n := n) (by omega) (by omega) hpw) (by rw [Nat.pow_zero,Nat.div_one,Nat.mod_eq_of_lt hpl])) (slice_law _ _ _ _)),oK,⟨oK,(by simp)⟩,oK,oK,oK,oK,⟨oK,(by simp; omega)⟩,oK,oK,oK,oK,oK,oK,oK,oK,oK,oK,oK,oK,oK,oK,oK,oK,oK⟩ ?_
    refine Ev.ret ?_
    refine ⟨⟨oK,oK⟩,(?_ : true = true),.inr trivial⟩
    rfl
  · skip
    refine Ev.reg [(2,.val (dB true)),(8,.call none false (ym1 p)),(10,.val (dB true)),(15,.val (dB false)),(22,.val (i6 ((w - n : Nat) : Int))),(24,.call none false (i6 0)),(25,.val (dB true))] [6] (st' := ⟨[(6,(dB true))],(ym0 k0 k1 k2)⟩)
      (p := T2 ((True∧(((p : Nat) : Int) == ((p : Nat) : Int)) = true)∧T5 (callOb Try.prog 25 (ym0 k0 k1 k2) [(ym1 p),(i6 ((w : Nat) : Int)),(.agg [(i6 0),(ym2 n)])] none false (ym1 p)∧True∧(True∧(((p : Nat) : Int) == ((p : Nat) : Int)) = true)∧T4 ((True∧(((w : Nat) : Int) == ((n : Nat) : Int)) = false)∧T6 ((True∧(IntKind.wrap .i64 (((w : Nat) : Int) - ((n : Nat) : Int))) = ((w - n : Nat) : Int))∧True∧callOb Try.prog 25 (ym0 k0 k1 k2) [(ym1 p),(i6 ((w : Nat) : Int)),(.agg [(ym2 n),(i6 ((w - n : Nat) : Int))])] none false (i6 0)∧(True∧true = true)∧T6 True))))) (by kernel_rfl)
      ⟨oK,oK,⟨oK,(by simp)⟩,oK,oK,oK,oK,oK,(CallOk.to (x := sliF ((p : Nat) : Int) ((w : Nat) : Int) 0 ((n : Nat) : Int)) (Eq.trans (sli_val (v := p) (w := w) (k := 0) (n := n) (by omega) (by omega) hpw) (by rw [Nat.pow_zero,Nat.div_one,Nat.mod_eq_of_lt hpl])) (slice_law _ _ _ _)),oK,⟨oK,(by simp)⟩,oK,oK,oK,oK,⟨oK,(by simp; omega)⟩,oK,oK,oK,oK,oK,oK,⟨oK,(w64n (by omega) (by omega))⟩,oK,(CallOk.to (x := sliF ((p : Nat) : Int) ((w : Nat) : Int) ((n : Nat) : Int) ((w - n : Nat) : Int)) (Eq.trans (sli_val (v := p) (w := w) (k := n) (n := w - n) (by omega) (by omega) hpw) (by rw [Nat.div_eq_of_lt hpl,Nat.zero_mod]; rfl)) (slice_law _ _ _ _)),⟨oK,(by simp)⟩,oK,oK,oK,oK,oK,oK,oK⟩ ?_
    refine Ev.ret ?_
    refine ⟨⟨oK,oK⟩,(?_ : true = true),.inr trivial⟩
    rfl

end Go.Proofs.Ytaghhicmnalmmaa
