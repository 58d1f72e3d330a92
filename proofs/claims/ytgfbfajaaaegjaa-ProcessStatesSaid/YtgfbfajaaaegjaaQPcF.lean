/-
  The laws of processes: described states, words and data; examples.
-/
import Derived.Test.YtgfbfajaaaegjaaQPcA
import Derived.Test.YtgfbfajaaaegjaaQPrB
import Derived.Test.YtgfbfajaaaegjaaQPrD
import Derived.Test.YtgfbfajaaaegjaaQPcG
namespace Go.Proofs.Ytgfbfajaaaegjaa
open Go.RowKit
set_option linter.unusedVariables false
set_option linter.unusedSimpArgs false
abbrev u3 (p : Pr) : ar := (.var 37 [(dS p.name),(dS p.clock),(dL 13 bU aA p.regs),(dL 27 dG ai p.mems),(dL 9 bV aJ p.takes),(dL 16 bN ay p.puts)])
abbrev zz (p : Pr) : D := (.agg [(dS p.name),(dS p.clock),(dL 13 bU aA p.regs),(dL 27 dG ai p.mems),(dL 9 bV aJ p.takes),(dL 16 bN ay p.puts)])
set_option maxRecDepth 100000
abbrev DI (p : Pr) (b : List Int) : Ct := ⟨12,[(zz p),(LY b)],true,(.agg [(LI ((bD p b).regs)),(dL 1 aL [] ((bD p b).mems))])⟩
abbrev i4 (p : Pr) (b : List Int) : Lp (Nat) := lm [2,4,5,6,7] 5 (fun (i : Nat) => ⟨[(2,(.ptr 0 0 0 0)),(4,(.ptr 1 0 0 0)),(5,(.ptr 2 0 0 0)),(6,(.ptr 3 0 0 0)),(7,(i6 (i : Int)))],[(u3 p),(.var 29 [.nils,.nils]),(.var 96 [(LY b),(i6 (i : Int))]),(.var 29 [(.own 4),.nils]),(.arr 3 1 (ac .i64) 0 (tab (tT p b) i))]⟩) (fun (i : Nat) => i ≤ p.regs.length) (fun (i : Nat) => p.regs.length - i)
abbrev i5 (p : Pr) (b : List Int) (i : Nat) : Lp (Nat × Nat) := A6 [2,4,5,6,8] 6 (fun (j : Nat) (q : Nat) => ⟨[(2,(.ptr 0 0 0 0)),(4,(.ptr 1 0 0 0)),(5,(.ptr 2 0 0 0)),(6,(.ptr 3 0 0 0)),(8,(i6 (j : Int)))],[(u3 p),(.var 29 [.nils,.nils]),(.var 96 [(LY b),(i6 (q : Int))]),(.var 29 [(.own 4),(.own 5)]),(.arr 3 1 (ac .i64) 0 (tab (tT p b) i)),(.arr 26 1 aL [] (tab (w5 p b) j))]⟩) (fun (j : Nat) (q : Nat) => j ≤ p.mems.length∧q = B9 p j) (fun (j : Nat) (q : Nat) => p.mems.length - j)
abbrev i7 (p : Pr) (b : List Int) (i : Nat) (j : Nat) (q : Nat) : Lp (Nat) := lm [2,4,5,6,8,9,10] 7 (fun (k : Nat) => ⟨[(2,(.ptr 0 0 0 0)),(4,(.ptr 1 0 0 0)),(5,(.ptr 2 0 0 0)),(6,(.ptr 3 0 0 0)),(8,(i6 (j : Int))),(9,(.own 6)),(10,(i6 (k : Int)))],[(u3 p),(.var 29 [.nils,.nils]),(.var 96 [(LY b),(i6 ((q + k : Nat) : Int))]),(.var 29 [(.own 4),(.own 5)]),(.arr 3 1 (ac .i64) 0 (tab (tT p b) i)),(.arr 26 1 aL [] (tab (w5 p b) j)),(.arr 3 1 (ac .i64) 0 (tab (tz p b j) k))]⟩) (fun (k : Nat) => k ≤ (p.mems.getD j ai).words.toNat) (fun (k : Nat) => (p.mems.getD j ai).words.toNat - k)
theorem AJ (p : Pr) (b : List Int) (hp : dA p) (hb : pv b) : CC (DI p b) := by
 have hl1 := hp.rl
 have hl2 := hp.ml
 refine ak.vc (V := TT 10 (GO (i4 p b) 0 (∀ i,(i4 p b).inv i → TT 5 (CD ((i : Int) < (p.regs.length : Int)) (TT 3 (CC (kX b i)∧TT 3 (IX (i : Int) p.regs.length∧TT 2 ((True∧IntKind.u64.wrap ((p.regs.getD i aA).w) = ((p.regs.getD i aA).w))∧SH ((p.regs.getD i aA).w)∧W6 ((2 ^ (((p.regs.getD i aA).w).toNat)) - 1)∧(True∧(IntKind.wrap .i64 (BitVec.ofInt (IntKind.i64).bits (b.getD i 0) &&& BitVec.ofInt (IntKind.i64).bits ((2 ^ (((p.regs.getD i aA).w).toNat)) - 1)).toNat) = (tT p b i))∧az [[(i6 (tT p b i))]] ([tT p b i].map (ac .i64))∧((tab (tT p b) i).length + ([tT p b i].map (ac .i64)).length ≤ 137438953472∧(tab (tT p b) i).map (ac .i64) ++ [tT p b i].map (ac .i64) = (tab (tT p b) (i + 1)).map (ac .i64))∧TT 3 (CC (il b i 1)∧TT 2 (W6 ((i + 1 : Nat) : Int)∧TT 1 (AG (i4 p b) i (i + 1)))))))) (TT 1 (GO (i5 p b i) (0,i) (∀ j q,(i5 p b i).inv (j,q) → TT 5 (CD ((j : Int) < (p.mems.length : Int)) (az [] (([] : List Int).map (ac .i64))∧TT 2 (GO (i7 p b i j q) 0 (∀ k,(i7 p b i j q).inv k → TT 4 (IX (j : Int) p.mems.length∧TT 3 (CD ((k : Int) < ((p.mems.getD j ai).words)) (TT 2 (CC (kX b (q + k))∧TT 3 (IX (j : Int) p.mems.length∧TT 2 ((True∧IntKind.u64.wrap ((p.mems.getD j ai).w) = ((p.mems.getD j ai).w))∧SH ((p.mems.getD j ai).w)∧W6 ((2 ^ (((p.mems.getD j ai).w).toNat)) - 1)∧(True∧(IntKind.wrap .i64 (BitVec.ofInt (IntKind.i64).bits (b.getD (q + k) 0) &&& BitVec.ofInt (IntKind.i64).bits ((2 ^ (((p.mems.getD j ai).w).toNat)) - 1)).toNat) = (tz p b j k))∧az [[(i6 (tz p b j k))]] ([tz p b j k].map (ac .i64))∧((tab (tz p b j) k).length + ([tz p b j k].map (ac .i64)).length ≤ 137438953472∧(tab (tz p b j) k).map (ac .i64) ++ [tz p b j k].map (ac .i64) = (tab (tz p b j) (k + 1)).map (ac .i64))∧TT 2 (CC (il b (q + k) 1)∧TT 2 (W6 ((k + 1 : Nat) : Int)∧TT 1 (AG (i7 p b i j q) k (k + 1)))))))) (TT 3 (az [[(LI (tab (tz p b j) k))]] ([tab (tz p b j) k].map aL)∧((tab (w5 p b) j).length + ([tab (tz p b j) k].map aL).length ≤ 137438953472∧(tab (w5 p b) j).map aL ++ [tab (tz p b j) k].map aL = (tab (w5 p b) (j + 1)).map aL)∧TT 3 (W6 ((j + 1 : Nat) : Int)∧TT 1 (AG (i5 p b i) (j,q) (j + 1,q + k)))))))))) (TT 3 ((tab (tT p b) i).map (ac .i64) = ((bD p b).regs).map (ac .i64)∧(tab (w5 p b) j).map aL = ((bD p b).mems).map aL∧True)))))))))) (.g 3 3 0 3 1 (ac .i64) 0 <| .l (i4 p b) 0 (fun i => .b 18 (.w 6 [(3,(kX b i).O),(10,.val (dI .u64 ((p.regs.getD i aA).w))),(11,.val (i6 (2 ^ (((p.regs.getD i aA).w).toNat)))),(12,.val (i6 ((2 ^ (((p.regs.getD i aA).w).toNat)) - 1))),(13,.val (i6 (tT p b i))),(14,.box 3 1 (ac .i64) 0 [tT p b i]),(15,.box 3 1 (ac .i64) 0 (tab (tT p b) (i + 1)))] <| .w 7 [(1,(il b i 1).O)] <| .w 5 [(1,.val (i6 ((i + 1 : Nat) : Int)))] <| .e) (.g 8 3 1 26 1 aL [] <| .l (i5 p b i) (0,i) (fun ⟨j,q⟩ => .b 44 (.w 11 [(0,.box 3 1 (ac .i64) 0 ([] : List Int))] <| .l (i7 p b i j q) 0 (fun k => .b 55 (.w 15 [(2,(kX b (q + k)).O),(9,.val (dI .u64 ((p.mems.getD j ai).w))),(10,.val (i6 (2 ^ (((p.mems.getD j ai).w).toNat)))),(11,.val (i6 ((2 ^ (((p.mems.getD j ai).w).toNat)) - 1))),(12,.val (i6 (tz p b j k))),(13,.box 3 1 (ac .i64) 0 [tz p b j k]),(14,.box 3 1 (ac .i64) 0 (tab (tz p b j) (k + 1)))] <| .w 16 [(1,(il b (q + k) 1).O)] <| .w 14 [(1,.val (i6 ((k + 1 : Nat) : Int)))] <| .e) (.f 17 6 <| .w 17 [(3,.box 26 1 aL [] [tab (tz p b j) k]),(4,.box 26 1 aL [] (tab (w5 p b) (j + 1)))] <| .w 10 [(1,.val (i6 ((j + 1 : Nat) : Int)))] <| .e))) (.e))))) Try.func12 rfl rfl rfl (by kernel_rfl) ?_
 refine tt ⟨rfl,(by omega),?_⟩
 intro i hinv
 have hi := hinv
 refine tt (cd (fun hc18 => ?_) (fun hc18 => ?_))
 · have hy := bO hb i
   have hw : 1 ≤ (p.regs.getD i aA).w∧(p.regs.getD i aA).w ≤ 8 := aK.1 (hp.rw i (by omega)).1
   refine tt ⟨(cA b i hb),tt ⟨ix,tt ⟨⟨oK,tg rfl om om⟩,⟨sh,⟨(w6 (by have := dF (n := (p.regs.getD i aA).w.toNat) (by omega); omega) (by have := dF (n := (p.regs.getD i aA).w.toNat) (by omega); omega)),⟨⟨oK,(ey (by omega))⟩,⟨⟨⟨rfl,oK⟩,oK⟩,⟨(bX (by omega) rfl),tt ⟨(dn b i 1 om),tt ⟨w6,tt ⟨(i + 1),rfl,(?_ : (i + 1) ≤ p.regs.length),(?_ : p.regs.length - (i + 1) < p.regs.length - i)⟩⟩⟩⟩⟩⟩⟩⟩⟩⟩⟩
   · omega
   · omega
 · have hie : i = p.regs.length := by omega
   refine tt ⟨rfl,⟨by omega,by rw [hie]; rfl⟩,?_⟩
   intro j q hinv
   obtain ⟨hj,hq⟩ := hinv
   have hqb := y9 hp j (by omega)
   refine tt (cd (fun hc44 => ?_) (fun hc44 => ?_))
   · have hmw : 1 ≤ (p.mems.getD j ai).words∧(p.mems.getD j ai).words ≤ 4 := (hp.mw j (by omega)).2.1
     refine ⟨oK,tt ⟨rfl,(by omega),?_⟩⟩
     intro k hinv
     have hk := hinv
     refine tt ⟨ix,tt (cd (fun hc55 => ?_) (fun hc55 => ?_))⟩
     · have hy := bO hb (q + k)
       have hw : 1 ≤ (p.mems.getD j ai).w∧(p.mems.getD j ai).w ≤ 8 := aK.1 (hp.mw j (by omega)).1
       refine tt ⟨(cA b (q + k) hb),tt ⟨ix,tt ⟨⟨oK,tg rfl om om⟩,⟨sh,⟨(w6 (by have := dF (n := (p.mems.getD j ai).w.toNat) (by omega); omega) (by have := dF (n := (p.mems.getD j ai).w.toNat) (by omega); omega)),⟨⟨oK,(by unfold tz; rw [← hq]; exact ey (by omega))⟩,⟨⟨⟨rfl,oK⟩,oK⟩,⟨(bX (by omega) rfl),tt ⟨(dn b (q + k) 1 om),tt ⟨w6,tt ⟨(k + 1),rfl,(?_ : (k + 1) ≤ (p.mems.getD j ai).words.toNat),(?_ : (p.mems.getD j ai).words.toNat - (k + 1) < (p.mems.getD j ai).words.toNat - k)⟩⟩⟩⟩⟩⟩⟩⟩⟩⟩⟩
       · omega
       · omega
     · have hke : k = (p.mems.getD j ai).words.toNat := by omega
       refine tt ⟨⟨⟨rfl,oK⟩,oK⟩,⟨(bX (by omega) (by rw [hke]; rfl)),tt ⟨w6,tt ⟨(j + 1,q + k),rfl,?_,(?_ : p.mems.length - (j + 1) < p.mems.length - j)⟩⟩⟩⟩
       · exact ⟨by omega,by rw [hq,hke]; rfl⟩
       · omega
   · have hje : j = p.mems.length := by omega
     refine tt ⟨(congrArg _ (?_ : (tab (tT p b) i) = ((bD p b).regs))),(congrArg _ (?_ : (tab (w5 p b) j) = ((bD p b).mems))),oK⟩
     all_goals (first | (rw [hie]; rfl) | (rw [hje]; rfl))
abbrev DJ (p : Pr) (b : List Int) : Ct := ⟨13,[(zz p),(LY b)],true,(.agg [(dL 2 du be (bR p b)),(LB (aM p b))])⟩
abbrev mZ (p : Pr) (b : List Int) : Lp (Nat) := lm [2,4,5,6,7] 5 (fun (i : Nat) => ⟨[(2,(.ptr 0 0 0 0)),(4,(.ptr 1 0 0 0)),(5,(.ptr 2 0 0 0)),(6,(.ptr 3 0 0 0)),(7,(i6 (i : Int)))],[(u3 p),(.var 43 [.nils,.nils]),(.var 96 [(LY b),(i6 (i : Int))]),(.var 43 [(.own 4),.nils]),(.arr 69 2 du be (tab (Al p b) i))]⟩) (fun (i : Nat) => i ≤ p.takes.length) (fun (i : Nat) => p.takes.length - i)
abbrev nf (p : Pr) (b : List Int) (i : Nat) : Lp (Nat) := lm [2,4,5,6,9] 6 (fun (m : Nat) => ⟨[(2,(.ptr 0 0 0 0)),(4,(.ptr 1 0 0 0)),(5,(.ptr 2 0 0 0)),(6,(.ptr 3 0 0 0)),(9,(i6 (m : Int)))],[(u3 p),(.var 43 [.nils,.nils]),(.var 96 [(LY b),(i6 ((i + m : Nat) : Int))]),(.var 43 [(.own 4),(.own 5)]),(.arr 69 2 du be (tab (Al p b) i)),(.arr 4 1 bq false (tab (Ba p b) m))]⟩) (fun (m : Nat) => m ≤ p.puts.length) (fun (m : Nat) => p.puts.length - m)
theorem Da (p : Pr) (b : List Int) (hp : dA p) (hb : pv b) : CC (DJ p b) := by
 have hl1 := hp.tl
 have hl2 := hp.pl
 refine ak.vc (V := TT 10 (GO (mZ p b) 0 (∀ i,(mZ p b).inv i → TT 5 (CD ((i : Int) < (p.takes.length : Int)) (TT 1 (CC (kX b i)∧TT 4 (QM (b.getD i 0) 4∧TT 2 (QD (b.getD i 0) 4∧TT 3 (IX (i : Int) p.takes.length∧TT 2 ((True∧IntKind.u64.wrap ((p.takes.getD i aJ).w) = ((p.takes.getD i aJ).w))∧SH ((p.takes.getD i aJ).w)∧W6 ((2 ^ (((p.takes.getD i aJ).w).toNat)) - 1)∧(True∧(IntKind.wrap .i64 (BitVec.ofInt (IntKind.i64).bits ((b.getD i 0) / 4) &&& BitVec.ofInt (IntKind.i64).bits ((2 ^ (((p.takes.getD i aJ).w).toNat)) - 1)).toNat) = (b.getD i 0 / 4 % 2 ^ (p.takes.getD i aJ).w.toNat))∧TT 1 (az [[(dB (((b.getD i 0) % 4) != 3)),(i6 (b.getD i 0 / 4 % 2 ^ (p.takes.getD i aJ).w.toNat))]] ([(⟨((b.getD i 0) % 4) != 3,b.getD i 0 / 4 % 2 ^ (p.takes.getD i aJ).w.toNat⟩ : Hd)].map du)∧((tab (Al p b) i).length + ([(⟨((b.getD i 0) % 4) != 3,b.getD i 0 / 4 % 2 ^ (p.takes.getD i aJ).w.toNat⟩ : Hd)].map du).length ≤ 137438953472∧(tab (Al p b) i).map du ++ [(⟨((b.getD i 0) % 4) != 3,b.getD i 0 / 4 % 2 ^ (p.takes.getD i aJ).w.toNat⟩ : Hd)].map du = (tab (Al p b) (i + 1)).map du)∧TT 3 (CC (il b i 1)∧TT 2 (W6 ((i + 1 : Nat) : Int)∧TT 1 (AG (mZ p b) i (i + 1))))))))))) (TT 1 (GO (nf p b i) 0 (∀ m,(nf p b i).inv m → TT 5 (CD ((m : Int) < (p.puts.length : Int)) (TT 3 (CC (kX b (i + m))∧QM (b.getD (i + m) 0) 4∧TT 1 (az [[(dB (((b.getD (i + m) 0) % 4) != 3))]] ([((b.getD (i + m) 0) % 4) != 3].map bq)∧((tab (Ba p b) m).length + ([((b.getD (i + m) 0) % 4) != 3].map bq).length ≤ 137438953472∧(tab (Ba p b) m).map bq ++ [((b.getD (i + m) 0) % 4) != 3].map bq = (tab (Ba p b) (m + 1)).map bq)∧TT 3 (CC (il b (i + m) 1)∧TT 2 (W6 ((m + 1 : Nat) : Int)∧TT 1 (AG (nf p b i) m (m + 1))))))) (TT 3 ((tab (Al p b) i).map du = (bR p b).map du∧(tab (Ba p b) m).map bq = (aM p b).map bq∧True)))))))))) (.g 3 3 0 69 2 du be <| .l (mZ p b) 0 (fun i => .b 17 (.w 6 [(1,(kX b i).O)] <| .w 7 [(3,.val (i6 ((b.getD i 0) % 4))),(6,.val (i6 ((b.getD i 0) / 4))),(13,.val (dI .u64 ((p.takes.getD i aJ).w))),(14,.val (i6 (2 ^ (((p.takes.getD i aJ).w).toNat)))),(15,.val (i6 ((2 ^ (((p.takes.getD i aJ).w).toNat)) - 1))),(16,.val (i6 (b.getD i 0 / 4 % 2 ^ (p.takes.getD i aJ).w.toNat))),(18,.box 69 2 du be [(⟨((b.getD i 0) % 4) != 3,b.getD i 0 / 4 % 2 ^ (p.takes.getD i aJ).w.toNat⟩ : Hd)]),(19,.box 69 2 du be (tab (Al p b) (i + 1)))] <| .w 8 [(1,(il b i 1).O)] <| .w 5 [(1,.val (i6 ((i + 1 : Nat) : Int)))] <| .e) (.g 9 3 1 4 1 bq false <| .l (nf p b i) 0 (fun m => .b 49 (.w 12 [(3,(kX b (i + m)).O),(4,.val (i6 ((b.getD (i + m) 0) % 4))),(6,.box 4 1 bq false [((b.getD (i + m) 0) % 4) != 3]),(7,.box 4 1 bq false (tab (Ba p b) (m + 1)))] <| .w 13 [(1,(il b (i + m) 1).O)] <| .w 11 [(1,.val (i6 ((m + 1 : Nat) : Int)))] <| .e) (.e))))) Try.func13 rfl rfl rfl (by kernel_rfl) ?_
 refine tt ⟨rfl,(by omega),?_⟩
 intro i hinv
 have hi := hinv
 refine tt (cd (fun hc17 => ?_) (fun hc17 => ?_))
 · refine tt ⟨(cA b i hb),?_⟩
   have hy := bO hb i
   have hw : 1 ≤ (p.takes.getD i aJ).w∧(p.takes.getD i aJ).w ≤ 8 := aK.1 (hp.tw i (by omega)).1
   refine tt ⟨qm,tt ⟨qd,tt ⟨ix,tt ⟨⟨oK,tg rfl om om⟩,⟨sh,⟨(w6 (by have := dF (n := (p.takes.getD i aJ).w.toNat) (by omega); omega) (by have := dF (n := (p.takes.getD i aJ).w.toNat) (by omega); omega)),⟨⟨oK,(ey (by omega))⟩,tt ⟨⟨⟨rfl,rfl,oK⟩,oK⟩,⟨(bX (by omega) rfl),tt ⟨(dn b i 1 om),tt ⟨w6,tt ⟨(i + 1),rfl,(?_ : (i + 1) ≤ p.takes.length),(?_ : p.takes.length - (i + 1) < p.takes.length - i)⟩⟩⟩⟩⟩⟩⟩⟩⟩⟩⟩⟩
   · omega
   · omega
 · have hie : i = p.takes.length := by omega
   refine tt ⟨rfl,(by omega),?_⟩
   intro m hinv
   have hm := hinv
   refine tt (cd (fun hc49 => ?_) (fun hc49 => ?_))
   · have hy := bO hb (i + m)
     refine tt ⟨(cA b (i + m) hb),⟨qm,tt ⟨⟨⟨rfl,oK⟩,oK⟩,⟨(bX (by omega) (by rw [hie]; rfl)),tt ⟨(dn b (i + m) 1 om),tt ⟨w6,tt ⟨(m + 1),rfl,(?_ : (m + 1) ≤ p.puts.length),(?_ : p.puts.length - (m + 1) < p.puts.length - m)⟩⟩⟩⟩⟩⟩⟩
     · omega
     · omega
   · have hme : m = p.puts.length := by omega
     refine tt ⟨(congrArg _ (?_ : (tab (Al p b) i) = (bR p b))),(congrArg _ (?_ : (tab (Ba p b) m) = (aM p b))),oK⟩
     all_goals (first | (rw [hie]; rfl) | (rw [hme]; rfl))
abbrev DK (p : Pr) (s : Ps) (hs : List Hd) (rs : List Bool) : Ct := ⟨21,[(zz p),(.agg [(LI s.regs),(dL 1 aL [] s.mems)]),(.agg [(dL 2 du be hs),(LB rs)])],true,(.agg [(dB ((ae p s hs rs).fires)),(LI (((ae p s hs rs).s).regs)),(dL 1 aL [] (((ae p s hs rs).s).mems)),(LB ((ae p s hs rs).pops)),(dL 2 du be ((ae p s hs rs).puts))])⟩
theorem AK (p : Pr) (s : Ps) (hs : List Hd) (rs : List Bool) (hp : dA p) (hso : lL p s) (hh : tr p hs) (hrs : rs.length = p.puts.length) : CC (DK p s hs rs) := by
 refine ak.vc (V := TT 10 (CC (x8 p s hs rs)∧TT 2 (((ae p s hs rs).fires) = ((ae p s hs rs).fires)∧(((ae p s hs rs).s).regs).map (ac .i64) = (((ae p s hs rs).s).regs).map (ac .i64)∧(((ae p s hs rs).s).mems).map aL = (((ae p s hs rs).s).mems).map aL∧((ae p s hs rs).pops).map bq = ((ae p s hs rs).pops).map bq∧((ae p s hs rs).puts).map du = ((ae p s hs rs).puts).map du∧True))) (.w 1 [(6,(x8 p s hs rs).O)] <| .e) Try.func21 rfl rfl rfl (by kernel_rfl) ?_
 exact tt ⟨(mY p s hs rs hp hso hh hrs),tt ⟨rfl,rfl,rfl,rfl,rfl,oK⟩⟩
abbrev AL (op k w : Int) (n : Nat) : Ct := ⟨59,[(i6 op),(i6 k),(i6 w)],true,(.agg [(i6 ((a9 op k w).op)),(dS ((a9 op k w).name)),(i6 (((a9 op k w).k).n)),(dS (((a9 op k w).k).p)),(i6 (((a9 op k w).w).n)),(dS (((a9 op k w).w).p)),(dL 7 (eA n) dE ((a9 op k w).args))])⟩
theorem tM (op k w : Int) (n : Nat) : CC (AL op k w n) := by
 refine ak.vc (V := TT 9 (op = ((a9 op k w).op)∧e0 = ((a9 op k w).name)∧k = (((a9 op k w).k).n)∧e0 = (((a9 op k w).k).p)∧w = (((a9 op k w).w).n)∧e0 = (((a9 op k w).w).p)∧((a9 op k w).args) = []∧True)) (.e) Try.func59 rfl rfl rfl (by kernel_rfl) ?_
 refine tt ⟨?_,?_,?_,?_,?_,?_,?_,oK⟩
 all_goals (rfl)
abbrev DL : Ct := ⟨33,[],true,(.agg [(dS bE.name),(dS bE.clock),(dL 13 bU aA bE.regs),(dL 27 dG ai bE.mems),(dL 9 bV aJ bE.takes),(dL 16 bN ay bE.puts)])⟩
theorem xY  : CC DL := by
 refine ak.vc (V := TT 1 (CC (AL 16 0 0 1)∧TT 3 (CC (AL 18 0 0 1)∧az [[(i6 ((a9 16 0 0).op)),(dS ((a9 16 0 0).name)),(i6 (((a9 16 0 0).k).n)),(dS (((a9 16 0 0).k).p)),(i6 (((a9 16 0 0).w).n)),(dS (((a9 16 0 0).w).p)),(dL 7 (eA 1) dE ((a9 16 0 0).args))],[(i6 ((a9 18 0 0).op)),(dS ((a9 18 0 0).name)),(i6 (((a9 18 0 0).k).n)),(dS (((a9 18 0 0).k).p)),(i6 (((a9 18 0 0).w).n)),(dS (((a9 18 0 0).w).p)),(dL 7 (eA 1) dE ((a9 18 0 0).args))]] ([a9 16 0 0,a9 18 0 0].map (eA 2))∧TT 2 (az [[(dS (bs [114])),(i6 2),(i6 1),(i6 6),(dS e0),(i6 0),(dS e0),(i6 0),(dS e0),(dL 7 (eA 2) dE [a9 16 0 0,a9 18 0 0]),(i6 0),(dS e0),(i6 0)]] ([(⟨bs [114],2,1,tA,uI⟩ : Rg)].map bU)∧CC (AL 1 1 1 1)∧TT 1 (az [[(i6 0),(i6 2),(i6 ((a9 1 1 1).op)),(dS ((a9 1 1 1).name)),(i6 (((a9 1 1 1).k).n)),(dS (((a9 1 1 1).k).p)),(i6 (((a9 1 1 1).w).n)),(dS (((a9 1 1 1).w).p)),(dL 7 (eA 1) dE ((a9 1 1 1).args))]] ([(⟨0,2,a9 1 1 1⟩ : Tk)].map bV)∧TT 1 (CC (AL 1 3 2 1)∧az [[(i6 ((a9 16 0 0).op)),(dS ((a9 16 0 0).name)),(i6 (((a9 16 0 0).k).n)),(dS (((a9 16 0 0).k).p)),(i6 (((a9 16 0 0).w).n)),(dS (((a9 16 0 0).w).p)),(dL 7 (eA 1) dE ((a9 16 0 0).args))],[(i6 ((a9 1 3 2).op)),(dS ((a9 1 3 2).name)),(i6 (((a9 1 3 2).k).n)),(dS (((a9 1 3 2).k).p)),(i6 (((a9 1 3 2).w).n)),(dS (((a9 1 3 2).w).p)),(dL 7 (eA 1) dE ((a9 1 3 2).args))]] ([a9 16 0 0,a9 1 3 2].map (eA 2))∧TT 3 (az [[(i6 1),(i6 2),(i6 8),(dS e0),(i6 0),(dS e0),(i6 0),(dS e0),(dL 7 (eA 2) dE [a9 16 0 0,a9 1 3 2]),(i6 ((a9 16 0 0).op)),(dS ((a9 16 0 0).name)),(i6 (((a9 16 0 0).k).n)),(dS (((a9 16 0 0).k).p)),(i6 (((a9 16 0 0).w).n)),(dS (((a9 16 0 0).w).p)),(dL 7 (eA 1) dE ((a9 16 0 0).args))]] ([(⟨1,2,Ca,a9 16 0 0⟩ : Pt)].map bN)∧TT 3 ((bs [112]) = bE.name∧(bs [99]) = bE.clock∧[(⟨bs [114],2,1,tA,uI⟩ : Rg)].map bU = bE.regs.map bU∧bE.mems = []∧[(⟨0,2,a9 1 1 1⟩ : Tk)].map bV = bE.takes.map bV∧[(⟨1,2,Ca,a9 16 0 0⟩ : Pt)].map bN = bE.puts.map bN∧True)))))))) (.w 1 [(0,(AL 16 0 0 1).O)] <| .w 2 [(1,(AL 18 0 0 1).O),(2,.box 60 7 (eA 2) dE [a9 16 0 0,a9 18 0 0]),(5,.box 92 13 bU aA [(⟨bs [114],2,1,tA,uI⟩ : Rg)]),(6,(AL 1 1 1 1).O),(8,.box 71 9 bV aJ [(⟨0,2,a9 1 1 1⟩ : Tk)]),(10,(AL 1 3 2 1).O),(11,.box 60 7 (eA 2) dE [a9 16 0 0,a9 1 3 2]),(15,.box 73 16 bN ay [(⟨1,2,Ca,a9 16 0 0⟩ : Pt)])] <| .e) Try.func33 rfl rfl rfl (by kernel_rfl) ?_
 refine tt ⟨(tM 16 0 0 1),tt ⟨(tM 18 0 0 1),⟨⟨⟨rfl,rfl,rfl,rfl,rfl,rfl,rfl,oK⟩,⟨rfl,rfl,rfl,rfl,rfl,rfl,rfl,oK⟩,oK⟩,tt ⟨⟨⟨rfl,rfl,rfl,rfl,rfl,rfl,rfl,rfl,rfl,rfl,rfl,rfl,rfl,oK⟩,oK⟩,⟨(tM 1 1 1 1),tt ⟨⟨⟨rfl,rfl,rfl,rfl,rfl,rfl,rfl,rfl,rfl,oK⟩,oK⟩,tt ⟨(tM 1 3 2 1),⟨⟨⟨rfl,rfl,rfl,rfl,rfl,rfl,rfl,oK⟩,⟨rfl,rfl,rfl,rfl,rfl,rfl,rfl,oK⟩,oK⟩,tt ⟨⟨⟨rfl,rfl,rfl,rfl,rfl,rfl,rfl,rfl,rfl,rfl,rfl,rfl,rfl,rfl,rfl,rfl,oK⟩,oK⟩,tt ⟨?_,?_,(congrArg _ (?_ : [(⟨bs [114],2,1,tA,uI⟩ : Rg)] = bE.regs)),?_,(congrArg _ (?_ : [(⟨0,2,a9 1 1 1⟩ : Tk)] = bE.takes)),(congrArg _ (?_ : [(⟨1,2,Ca,a9 16 0 0⟩ : Pt)] = bE.puts)),oK⟩⟩⟩⟩⟩⟩⟩⟩⟩⟩
 all_goals (rfl)
end Go.Proofs.Ytgfbfajaaaegjaa
