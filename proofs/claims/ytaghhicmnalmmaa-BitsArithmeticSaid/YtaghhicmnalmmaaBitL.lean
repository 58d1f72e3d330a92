/-
  BitsArithmetic.
-/
import Derived.Test.YtaghhicmnalmmaaBitJ
import Derived.Test.YtaghhicmnalmmaaBitR
namespace Go.Proofs.Ytaghhicmnalmmaa
open Go.RowKit
set_option linter.unusedVariables false
set_option linter.unusedSimpArgs false
abbrev yl2 (n : Nat) : Box := (.arr 3 1 (encI .i64) 0 [((n : Nat) : Int)])
abbrev yl10 (p : Nat) : Box := (.arr 3 1 (encI .i64) 0 [((p : Nat) : Int)])
abbrev yl15 (q : Nat) : Box := (.arr 3 1 (encI .i64) 0 [((q : Nat) : Int)])
abbrev yl0 (n p q : Nat) : List Box := [(yl2 n),(yl10 p),(yl2 n),(yl15 q)]
abbrev yl1 (n p q : Nat) : List Box := [(yl2 n),(yl10 p),(yl2 n),(yl15 q),(yl2 n),(.arr 3 1 (encI .i64) 0 [((p &&& q : Nat) : Int)]),(yl2 n),(.arr 3 1 (encI .i64) 0 [((p ||| q : Nat) : Int)])]
abbrev yl3 (n : Nat) : D := (i6 ((n : Nat) : Int))
abbrev yl4 (p n q : Nat) : D := (i6 (((p + (2 ^ n - q)) % 2 ^ n : Nat) : Int))
abbrev yl5 (p : Nat) : D := (i6 ((p : Nat) : Int))
abbrev yl6 (n : Nat) : D := (i6 ((2 ^ n - 1 : Nat) : Int))
abbrev yl7 (p q n : Nat) : D := (i6 (((p + q) % 2 ^ n : Nat) : Int))
abbrev yl8 (q : Nat) : D := (i6 ((q : Nat) : Int))
abbrev yl9 (n q : Nat) : D := (i6 ((2 ^ n - 1 - q : Nat) : Int))
abbrev yl11 (n p : Nat) : D := (i6 ((2 ^ n - 1 - p : Nat) : Int))
abbrev yl12 (n : Nat) : D := (LI [((n : Nat) : Int)])
abbrev yl13 (n p q : Nat) : D := (i6 (((2 ^ n - 1 - p) ||| (2 ^ n - 1 - q) : Nat) : Int))
abbrev yl14 (n p q : Nat) : D := (i6 (((2 ^ n - 1 - p) &&& (2 ^ n - 1 - q) : Nat) : Int))

set_option maxRecDepth 100000 in
theorem arithmetic_law (a b c : Nat) (ha : a ≤ 255) (hb : b ≤ 255) (hc : c ≤ 255) : CallOk Try.prog 5 [(dI .u8 ((a : Nat) : Int)),(dI .u8 ((b : Nat) : Int)),(dI .u8 ((c : Nat) : Int))] [] false (dB true) [] := by
  refine CallOk.of_ev Try.func5 rfl rfl rfl ?_
  rintro ⟨_,W,S0,_,susp,_⟩ rfl rfl rfl
  refine Ev.seq ?_
  refine Ev.reg [] [0,1,2] (st' := ⟨[(0,(dI .u8 ((a : Nat) : Int))),(1,(dI .u8 ((b : Nat) : Int))),(2,(dI .u8 ((c : Nat) : Int)))],[]⟩)
    (p := True∧True) (by kernel_rfl)
    ⟨oK,oK⟩ ?_
  refine Ev.seq ?_
  refine Ev.reg [(0,.call none false (dB true))] [0,1,2,7] (st' := ⟨[(0,(dI .u8 ((a : Nat) : Int))),(1,(dI .u8 ((b : Nat) : Int))),(2,(dI .u8 ((c : Nat) : Int))),(7,(dB true))],[]⟩)
    (p := callOb Try.prog 9 [] [] none false (dB true)∧True∧True) (by kernel_rfl)
    ⟨examples_ok,oK,oK⟩ ?_
  refine Ev.seq ?_
  refine Ev.seq ?_
  refine Ev.reg [] [0,1,2,7,21] (st' := ⟨[(0,(dI .u8 ((a : Nat) : Int))),(1,(dI .u8 ((b : Nat) : Int))),(2,(dI .u8 ((c : Nat) : Int))),(7,(dB true)),(21,(dB false))],[]⟩)
    (p := T2 True) (by kernel_rfl)
    ⟨oK,oK,oK⟩ ?_
  refine Ev.cond false rfl (fun h => (by cases h)) (fun _ => ?_)
  refine Ev.skip ?_
  refine Ev.seq ?_
  obtain ⟨n,hn⟩ : ∃ n,n = 1 + c % 8 := ⟨_,rfl⟩
  have hn1 : 1 ≤ n∧n ≤ 8 := by omega
  refine Ev.reg [(1,.val (dI .u8 ((c % 8 : Nat) : Int))),(2,.val (i6 ((c % 8 : Nat) : Int))),(3,.val (yl3 n))] [0,1,7,8] (st' := ⟨[(0,(dI .u8 ((a : Nat) : Int))),(1,(dI .u8 ((b : Nat) : Int))),(7,(dB true)),(8,(yl3 n))],[]⟩)
    (p := True∧((8 : Int) ≠ 0∧(Int.tmod ((c : Nat) : Int) 8) = ((c % 8 : Nat) : Int))∧(True∧(IntKind.wrap .i64 ((c % 8 : Nat) : Int)) = ((c % 8 : Nat) : Int))∧(True∧(IntKind.wrap .i64 (1 + ((c % 8 : Nat) : Int))) = ((n : Nat) : Int))∧True∧True) (by kernel_rfl)
    ⟨oK,⟨(by first | omega | (simp; first | done | omega)),(tmodN _ 8)⟩,⟨oK,(w64 rfl (by first | omega | (simp; first | done | omega)) (by first | omega | (simp; first | done | omega)))⟩,⟨oK,(w64n (by omega) (by omega))⟩,oK,oK⟩ ?_
  refine Ev.seq ?_
  refine Ev.reg [(1,.call none false (yl6 n))] [0,1,7,8,9] (st' := ⟨[(0,(dI .u8 ((a : Nat) : Int))),(1,(dI .u8 ((b : Nat) : Int))),(7,(dB true)),(8,(yl3 n)),(9,(yl6 n))],[]⟩)
    (p := True∧callOb Try.prog 14 [] [(yl3 n)] none false (yl6 n)∧True∧True) (by kernel_rfl)
    ⟨oK,(CallOk.to (x := maskF ((n : Nat) : Int)) (maskN (by omega)) (mask_ok _)),oK,oK⟩ ?_
  refine Ev.seq ?_
  obtain ⟨p,hp⟩ : ∃ p,p = a % 2 ^ n := ⟨_,rfl⟩
  obtain ⟨q,hq⟩ : ∃ q,q = b % 2 ^ n := ⟨_,rfl⟩
  have hpl : p < 2 ^ n := by rw [hp]; exact Nat.mod_lt _ (Nat.two_pow_pos n)
  have hql : q < 2 ^ n := by rw [hq]; exact Nat.mod_lt _ (Nat.two_pow_pos n)
  have h256 : 2 ^ n ≤ 256 := pow_le256 (by omega)
  have h2n : 2 ≤ 2 ^ n := two_le (by omega)
  have hal : p &&& q ≤ p := Nat.and_le_left
  refine Ev.reg [(1,.val (i6 ((a : Nat) : Int))),(3,.val (yl5 p)),(5,.val (i6 ((b : Nat) : Int))),(7,.val (yl8 q))] [7,8,9,10,11] (st' := ⟨[(7,(dB true)),(8,(yl3 n)),(9,(yl6 n)),(10,(yl5 p)),(11,(yl8 q))],[]⟩)
    (p := True∧(True∧(IntKind.wrap .i64 ((a : Nat) : Int)) = ((a : Nat) : Int))∧True∧(True∧(IntKind.wrap .i64 (BitVec.ofInt (IntKind.i64).bits ((a : Nat) : Int) &&& BitVec.ofInt (IntKind.i64).bits ((2 ^ n - 1 : Nat) : Int)).toNat) = ((p : Nat) : Int))∧True∧(True∧(IntKind.wrap .i64 ((b : Nat) : Int)) = ((b : Nat) : Int))∧True∧(True∧(IntKind.wrap .i64 (BitVec.ofInt (IntKind.i64).bits ((b : Nat) : Int) &&& BitVec.ofInt (IntKind.i64).bits ((2 ^ n - 1 : Nat) : Int)).toNat) = ((q : Nat) : Int))∧T2 True) (by kernel_rfl)
    ⟨oK,⟨oK,(w64 rfl (by first | omega | (simp; first | done | omega)) (by first | omega | (simp; first | done | omega)))⟩,oK,⟨oK,(by rw [mask_and2 (by omega)]; rw [hp])⟩,oK,⟨oK,(w64 rfl (by first | omega | (simp; first | done | omega)) (by first | omega | (simp; first | done | omega)))⟩,oK,⟨oK,(by rw [mask_and2 (by omega)]; rw [hq])⟩,oK,oK,oK⟩ ?_
  refine Ev.seq ?_
  refine Ev.reg [(4,.call none false (yl7 p q n)),(9,.call none false (yl4 p n q))] [7,8,9,10,11,12,13] (st' := ⟨[(7,(dB true)),(8,(yl3 n)),(9,(yl6 n)),(10,(yl5 p)),(11,(yl8 q)),(12,(yl7 p q n)),(13,(yl4 p n q))],[]⟩)
    (p := T4 (callOb Try.prog 22 [] [(i6 6),(yl3 n),(.agg [(yl5 p),(yl8 q)])] none false (yl7 p q n)∧T4 (callOb Try.prog 22 [] [(i6 7),(yl3 n),(.agg [(yl5 p),(yl8 q)])] none false (yl4 p n q)∧T2 True))) (by kernel_rfl)
    ⟨oK,oK,oK,oK,(CallOk.to (x := appF 6 [((n : Nat) : Int),((n : Nat) : Int)] [((p : Nat) : Int),((q : Nat) : Int)]) (app_add (by omega) hpl hql) (two_ok _ _ _ _)),oK,oK,oK,oK,(CallOk.to (x := appF 7 [((n : Nat) : Int),((n : Nat) : Int)] [((p : Nat) : Int),((q : Nat) : Int)]) (app_sub2 (by omega) hpl hql) (two_ok _ _ _ _)),oK,oK,oK⟩ ?_
  refine Ev.seq ?_
  refine Ev.reg [(1,.box 3 1 (encI .i64) 0 [((n : Nat) : Int)]),(3,.box 3 1 (encI .i64) 0 [((p : Nat) : Int)]),(4,.call (some [(i6 2),(yl12 n),(LI [((p : Nat) : Int)])]) false (yl11 n p)),(6,.box 3 1 (encI .i64) 0 [((n : Nat) : Int)]),(8,.box 3 1 (encI .i64) 0 [((q : Nat) : Int)]),(9,.call (some [(i6 2),(yl12 n),(LI [((q : Nat) : Int)])]) false (yl9 n q))] [7,8,9,10,11,12,13,14,15] (st' := ⟨[(7,(dB true)),(8,(yl3 n)),(9,(yl6 n)),(10,(yl5 p)),(11,(yl8 q)),(12,(yl7 p q n)),(13,(yl4 p n q)),(14,(yl11 n p)),(15,(yl9 n q))],(yl0 n p q)⟩)
    (p := True∧eqRows [[(yl3 n)]] ([((n : Nat) : Int)].map (encI .i64))∧True∧eqRows [[(yl5 p)]] ([((p : Nat) : Int)].map (encI .i64))∧callOb Try.prog 23 [(yl2 n),(yl10 p)] [(i6 2),(.own 0),(.own 1)] (some [(i6 2),(yl12 n),(LI [((p : Nat) : Int)])]) false (yl11 n p)∧True∧eqRows [[(yl3 n)]] ([((n : Nat) : Int)].map (encI .i64))∧True∧eqRows [[(yl8 q)]] ([((q : Nat) : Int)].map (encI .i64))∧callOb Try.prog 23 (yl0 n p q) [(i6 2),(.own 2),(.own 3)] (some [(i6 2),(yl12 n),(LI [((q : Nat) : Int)])]) false (yl9 n q)∧T2 True) (by kernel_rfl)
    ⟨oK,⟨⟨rfl,oK⟩,oK⟩,oK,⟨⟨rfl,oK⟩,oK⟩,⟨⟨rfl,rfl,rfl,oK⟩,(CallOk.to (x := appF 2 [((n : Nat) : Int)] [((p : Nat) : Int)]) (app_not (by omega) hpl) (lapply_ok _ _ _ (by first | omega | (simp; first | done | omega)) (by first | omega | (simp; first | done | omega))))⟩,oK,⟨⟨rfl,oK⟩,oK⟩,oK,⟨⟨rfl,oK⟩,oK⟩,⟨⟨rfl,rfl,rfl,oK⟩,(CallOk.to (x := appF 2 [((n : Nat) : Int)] [((q : Nat) : Int)]) (app_not (by omega) hql) (lapply_ok _ _ _ (by first | omega | (simp; first | done | omega)) (by first | omega | (simp; first | done | omega))))⟩,oK,oK,oK⟩ ?_
  refine Ev.seq ?_
  refine Ev.reg [(4,.call none false (i6 ((p &&& q : Nat) : Int))),(9,.call none false (i6 ((p ||| q : Nat) : Int))),(14,.call none false (i6 ((p ^^^ q : Nat) : Int)))] [7,8,9,10,11,12,13,14,15,16,17,18] (st' := ⟨[(7,(dB true)),(8,(yl3 n)),(9,(yl6 n)),(10,(yl5 p)),(11,(yl8 q)),(12,(yl7 p q n)),(13,(yl4 p n q)),(14,(yl11 n p)),(15,(yl9 n q)),(16,(i6 ((p &&& q : Nat) : Int))),(17,(i6 ((p ||| q : Nat) : Int))),(18,(i6 ((p ^^^ q : Nat) : Int)))],(yl0 n p q)⟩)
    (p := T4 (callOb Try.prog 22 (yl0 n p q) [(i6 3),(yl3 n),(.agg [(yl5 p),(yl8 q)])] none false (i6 ((p &&& q : Nat) : Int))∧T4 (callOb Try.prog 22 (yl0 n p q) [(i6 4),(yl3 n),(.agg [(yl5 p),(yl8 q)])] none false (i6 ((p ||| q : Nat) : Int))∧T4 (callOb Try.prog 22 (yl0 n p q) [(i6 5),(yl3 n),(.agg [(yl5 p),(yl8 q)])] none false (i6 ((p ^^^ q : Nat) : Int))∧T3 True)))) (by kernel_rfl)
    ⟨oK,oK,oK,oK,(CallOk.to (x := appF 3 [((n : Nat) : Int),((n : Nat) : Int)] [((p : Nat) : Int),((q : Nat) : Int)]) (app_and (by omega) hpl hql) (two_ok _ _ _ _)),oK,oK,oK,oK,(CallOk.to (x := appF 4 [((n : Nat) : Int),((n : Nat) : Int)] [((p : Nat) : Int),((q : Nat) : Int)]) (app_or (by omega) hpl hql) (two_ok _ _ _ _)),oK,oK,oK,oK,(CallOk.to (x := appF 5 [((n : Nat) : Int),((n : Nat) : Int)] [((p : Nat) : Int),((q : Nat) : Int)]) (app_xor (by omega) hpl hql) (two_ok _ _ _ _)),oK,oK,oK,oK⟩ ?_
  refine Ev.seq ?_
  refine Ev.seq ?_
  refine Ev.reg [(2,.val (dI .u64 ((n : Nat) : Int))),(3,.val (i6 ((2 ^ n : Nat) : Int))),(4,.val (yl6 n)),(5,.val (dB false)),(11,.call none false (yl5 p)),(13,.val (dB false)),(20,.call none false (yl5 p)),(22,.val (dB false)),(30,.call none false (yl7 p q n)),(31,.val (dB false))] [7,8,9,10,12,13,14,15,16,17,18,103] (st' := ⟨[(7,(dB true)),(8,(yl3 n)),(9,(yl6 n)),(10,(yl5 p)),(12,(yl7 p q n)),(13,(yl4 p n q)),(14,(yl11 n p)),(15,(yl9 n q)),(16,(i6 ((p &&& q : Nat) : Int))),(17,(i6 ((p ||| q : Nat) : Int))),(18,(i6 ((p ^^^ q : Nat) : Int))),(103,(dB false))],(yl0 n p q)⟩)
    (p := T2 ((True∧(IntKind.wrap .u64 ((n : Nat) : Int)) = ((n : Nat) : Int))∧(0 ≤ ((n : Nat) : Int)∧(IntKind.wrap .i64 (1 * 2 ^ min n 64)) = ((2 ^ n : Nat) : Int))∧(True∧(IntKind.wrap .i64 (((2 ^ n : Nat) : Int) - 1)) = ((2 ^ n - 1 : Nat) : Int))∧(True∧(((2 ^ n - 1 : Nat) : Int) != ((2 ^ n - 1 : Nat) : Int)) = false)∧T5 (callOb Try.prog 22 (yl0 n p q) [(i6 7),(yl3 n),(.agg [(yl7 p q n),(yl8 q)])] none false (yl5 p)∧True∧(True∧(((p : Nat) : Int) != ((p : Nat) : Int)) = false)∧T6 (callOb Try.prog 22 (yl0 n p q) [(i6 6),(yl3 n),(.agg [(yl4 p n q),(yl8 q)])] none false (yl5 p)∧True∧(True∧(((p : Nat) : Int) != ((p : Nat) : Int)) = false)∧T7 (callOb Try.prog 22 (yl0 n p q) [(i6 6),(yl3 n),(.agg [(yl8 q),(yl5 p)])] none false (yl7 p q n)∧(True∧((((p + q) % 2 ^ n : Nat) : Int) != (((p + q) % 2 ^ n : Nat) : Int)) = false)∧True∧True))))) (by kernel_rfl)
    ⟨oK,oK,⟨oK,(wu64 rfl (by first | omega | (simp; first | done | omega)) (by first | omega | (simp; first | done | omega)))⟩,⟨(by first | omega | (simp; first | done | omega)),(shl_oneN (by omega))⟩,⟨oK,(w64n (by omega) (by omega))⟩,⟨oK,(by simp)⟩,oK,oK,oK,oK,oK,(CallOk.to (x := appF 7 [((n : Nat) : Int),((n : Nat) : Int)] [(((p + q) % 2 ^ n : Nat) : Int),((q : Nat) : Int)]) (by rw [app_sub2 (by omega) (Nat.mod_lt _ (by omega)) hql,back1 hpl hql]) (two_ok _ _ _ _)),oK,⟨oK,(by simp)⟩,oK,oK,oK,oK,oK,oK,(CallOk.to (x := appF 6 [((n : Nat) : Int),((n : Nat) : Int)] [(((p + (2 ^ n - q)) % 2 ^ n : Nat) : Int),((q : Nat) : Int)]) (by rw [app_add (by omega) (Nat.mod_lt _ (by omega)) hql,back2 hpl hql]) (two_ok _ _ _ _)),oK,⟨oK,(by simp)⟩,oK,oK,oK,oK,oK,oK,oK,(CallOk.to (x := appF 6 [((n : Nat) : Int),((n : Nat) : Int)] [((q : Nat) : Int),((p : Nat) : Int)]) (by rw [app_add (by omega) hql hpl,Nat.add_comm]) (two_ok _ _ _ _)),⟨oK,(by simp)⟩,oK,oK⟩ ?_
  refine Ev.cond false rfl (fun h => (by cases h)) (fun _ => ?_)
  refine Ev.skip ?_
  refine Ev.seq ?_
  refine Ev.seq ?_
  refine Ev.reg [(6,.call none false (i6 (((p + (2 ^ n - 1 - q)) % 2 ^ n : Nat) : Int))),(8,.call none false (yl4 p n q)),(9,.val (dB false)),(12,.box 3 1 (encI .i64) 0 [((n : Nat) : Int)]),(14,.box 3 1 (encI .i64) 0 [((p &&& q : Nat) : Int)]),(15,.call (some [(i6 2),(yl12 n),(LI [((p &&& q : Nat) : Int)])]) false (yl13 n p q)),(20,.call none false (yl13 n p q)),(21,.val (dB false)),(25,.box 3 1 (encI .i64) 0 [((n : Nat) : Int)]),(27,.box 3 1 (encI .i64) 0 [((p ||| q : Nat) : Int)]),(28,.call (some [(i6 2),(yl12 n),(LI [((p ||| q : Nat) : Int)])]) false (yl14 n p q)),(33,.call none false (yl14 n p q)),(34,.val (dB false)),(39,.val (yl6 n)),(41,.val (dB false))] [7,9,12,16,17,18,146] (st' := ⟨[(7,(dB true)),(9,(yl6 n)),(12,(yl7 p q n)),(16,(i6 ((p &&& q : Nat) : Int))),(17,(i6 ((p ||| q : Nat) : Int))),(18,(i6 ((p ^^^ q : Nat) : Int))),(146,(dB false))],(yl1 n p q)⟩)
    (p := T6 (callOb Try.prog 22 (yl0 n p q) [(i6 6),(yl3 n),(.agg [(yl5 p),(yl9 n q)])] none false (i6 (((p + (2 ^ n - 1 - q)) % 2 ^ n : Nat) : Int))∧True∧callOb Try.prog 22 (yl0 n p q) [(i6 6),(yl3 n),(.agg [(i6 (((p + (2 ^ n - 1 - q)) % 2 ^ n : Nat) : Int)),(i6 1)])] none false (yl4 p n q)∧(True∧((((p + (2 ^ n - q)) % 2 ^ n : Nat) : Int) != (((p + (2 ^ n - q)) % 2 ^ n : Nat) : Int)) = false)∧T2 (eqRows [[(yl3 n)]] ([((n : Nat) : Int)].map (encI .i64))∧True∧eqRows [[(i6 ((p &&& q : Nat) : Int))]] ([((p &&& q : Nat) : Int)].map (encI .i64))∧callOb Try.prog 23 [(yl2 n),(yl10 p),(yl2 n),(yl15 q),(yl2 n),(.arr 3 1 (encI .i64) 0 [((p &&& q : Nat) : Int)])] [(i6 2),(.own 4),(.own 5)] (some [(i6 2),(yl12 n),(LI [((p &&& q : Nat) : Int)])]) false (yl13 n p q)∧T4 (callOb Try.prog 22 [(yl2 n),(yl10 p),(yl2 n),(yl15 q),(yl2 n),(.arr 3 1 (encI .i64) 0 [((p &&& q : Nat) : Int)])] [(i6 4),(yl3 n),(.agg [(yl11 n p),(yl9 n q)])] none false (yl13 n p q)∧(True∧((((2 ^ n - 1 - p) ||| (2 ^ n - 1 - q) : Nat) : Int) != (((2 ^ n - 1 - p) ||| (2 ^ n - 1 - q) : Nat) : Int)) = false)∧T3 (eqRows [[(yl3 n)]] ([((n : Nat) : Int)].map (encI .i64))∧True∧eqRows [[(i6 ((p ||| q : Nat) : Int))]] ([((p ||| q : Nat) : Int)].map (encI .i64))∧callOb Try.prog 23 (yl1 n p q) [(i6 2),(.own 6),(.own 7)] (some [(i6 2),(yl12 n),(LI [((p ||| q : Nat) : Int)])]) false (yl14 n p q)∧T4 (callOb Try.prog 22 (yl1 n p q) [(i6 3),(yl3 n),(.agg [(yl11 n p),(yl9 n q)])] none false (yl14 n p q)∧(True∧((((2 ^ n - 1 - p) &&& (2 ^ n - 1 - q) : Nat) : Int) != (((2 ^ n - 1 - p) &&& (2 ^ n - 1 - q) : Nat) : Int)) = false)∧T4 ((True∧(IntKind.wrap .i64 (((2 ^ n - 1 - p : Nat) : Int) + ((p : Nat) : Int))) = ((2 ^ n - 1 : Nat) : Int))∧True∧(True∧(((2 ^ n - 1 : Nat) : Int) != ((2 ^ n - 1 : Nat) : Int)) = false)∧True∧True))))))) (by kernel_rfl)
    ⟨oK,oK,oK,oK,oK,oK,(CallOk.to (x := appF 6 [((n : Nat) : Int),((n : Nat) : Int)] [((p : Nat) : Int),((2 ^ n - 1 - q : Nat) : Int)]) (app_add (by omega) hpl (by omega)) (two_ok _ _ _ _)),oK,(CallOk.to (x := appF 6 [((n : Nat) : Int),((n : Nat) : Int)] [(((p + (2 ^ n - 1 - q)) % 2 ^ n : Nat) : Int),1]) (by rw [app_one (by omega) (Nat.mod_lt _ (by omega)),back3 hpl hql h2n]) (two_ok _ _ _ _)),⟨oK,(by simp)⟩,oK,oK,⟨⟨rfl,oK⟩,oK⟩,oK,⟨⟨rfl,oK⟩,oK⟩,⟨⟨rfl,rfl,rfl,oK⟩,(CallOk.to (x := appF 2 [((n : Nat) : Int)] [((p &&& q : Nat) : Int)]) (by rw [app_not (by omega) (and_lt hpl),morgan1 hpl hql]) (lapply_ok _ _ _ (by first | omega | (simp; first | done | omega)) (by first | omega | (simp; first | done | omega))))⟩,oK,oK,oK,oK,(CallOk.to (x := appF 4 [((n : Nat) : Int),((n : Nat) : Int)] [((2 ^ n - 1 - p : Nat) : Int),((2 ^ n - 1 - q : Nat) : Int)]) (app_or (by omega) (by omega) (by omega)) (two_ok _ _ _ _)),⟨oK,(by simp)⟩,oK,oK,oK,⟨⟨rfl,oK⟩,oK⟩,oK,⟨⟨rfl,oK⟩,oK⟩,⟨⟨rfl,rfl,rfl,oK⟩,(CallOk.to (x := appF 2 [((n : Nat) : Int)] [((p ||| q : Nat) : Int)]) (by rw [app_not (by omega) (Nat.or_lt_two_pow hpl hql),morgan2 hpl hql]) (lapply_ok _ _ _ (by first | omega | (simp; first | done | omega)) (by first | omega | (simp; first | done | omega))))⟩,oK,oK,oK,oK,(CallOk.to (x := appF 3 [((n : Nat) : Int),((n : Nat) : Int)] [((2 ^ n - 1 - p : Nat) : Int),((2 ^ n - 1 - q : Nat) : Int)]) (app_and (by omega) (by omega) (by omega)) (two_ok _ _ _ _)),⟨oK,(by simp)⟩,oK,oK,oK,oK,⟨oK,(w64n (by omega) (by omega))⟩,oK,⟨oK,(by simp)⟩,oK,oK⟩ ?_
  refine Ev.cond false rfl (fun h => (by cases h)) (fun _ => ?_)
  refine Ev.skip ?_
  refine Ev.seq ?_
  refine Ev.reg [(2,.val (i6 ((2 * (p &&& q) : Nat) : Int))),(3,.val (i6 ((p + q : Nat) : Int))),(5,.val (yl7 p q n)),(7,.val (dB true)),(11,.val (i6 ((p ||| q : Nat) : Int))),(13,.val (dB true))] [6] (st' := ⟨[(6,(dB true))],(yl1 n p q)⟩)
    (p := T2 ((True∧(IntKind.wrap .i64 (2 * ((p &&& q : Nat) : Int))) = ((2 * (p &&& q) : Nat) : Int))∧(True∧(IntKind.wrap .i64 (((p ^^^ q : Nat) : Int) + ((2 * (p &&& q) : Nat) : Int))) = ((p + q : Nat) : Int))∧True∧(True∧(IntKind.wrap .i64 (BitVec.ofInt (IntKind.i64).bits ((p + q : Nat) : Int) &&& BitVec.ofInt (IntKind.i64).bits ((2 ^ n - 1 : Nat) : Int)).toNat) = (((p + q) % 2 ^ n : Nat) : Int))∧True∧(True∧((((p + q) % 2 ^ n : Nat) : Int) == (((p + q) % 2 ^ n : Nat) : Int)) = true)∧T3 ((True∧(IntKind.wrap .i64 (((p ^^^ q : Nat) : Int) + ((p &&& q : Nat) : Int))) = ((p ||| q : Nat) : Int))∧True∧(True∧(((p ||| q : Nat) : Int) == ((p ||| q : Nat) : Int)) = true)∧T5 True))) (by kernel_rfl)
    ⟨oK,oK,⟨oK,(w64n (by omega) (by omega))⟩,⟨oK,(w64n (by have := sum256 p (by omega) q (by omega); omega) (by omega))⟩,oK,⟨oK,(mask_and2 (by omega))⟩,oK,⟨oK,(by simp)⟩,oK,oK,oK,⟨oK,(w64n (by have := sum256 p (by omega) q (by omega); omega) (by have := sum256 p (by omega) q (by omega); omega))⟩,oK,⟨oK,(by simp)⟩,oK,oK,oK,oK,oK,oK⟩ ?_
  refine Ev.ret ?_
  refine ⟨⟨oK,oK⟩,(?_ : true = true),.inr trivial⟩
  rfl

end Go.Proofs.Ytaghhicmnalmmaa
