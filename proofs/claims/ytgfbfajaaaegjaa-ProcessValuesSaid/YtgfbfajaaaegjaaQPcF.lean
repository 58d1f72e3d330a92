/-
  The laws of processes: described states, words and data; examples.
-/
import Derived.Test.YtgfbfajaaaegjaaQPcA
import Derived.Test.YtgfbfajaaaegjaaQPrB
import Derived.Test.YtgfbfajaaaegjaaQPrD
import Derived.Test.YtgfbfajaaaegjaaQPcG
namespace Go.Proofs.Ytgfbfajaaaegjaa
open Go.RowKit
set_option linter.unusedVariables false
set_option linter.unusedSimpArgs false
abbrev tj (p : Pr) : ay := (.var 37 [(dS p.name),(dS p.clock),(dL 13 bS aM p.regs),(dL 27 dW ax p.mems),(dL 9 bU aX p.takes),(dL 16 bL bg p.puts)])
abbrev yc (p : Pr) : D := (.agg [(dS p.name),(dS p.clock),(dL 13 bS aM p.regs),(dL 27 dW ax p.mems),(dL 9 bU aX p.takes),(dL 16 bL bg p.puts)])
set_option maxRecDepth 100000
abbrev D8 (p : Pr) (b : List Int) : Ct := ⟨12,[(yc p),(LY b)],true,(.agg [(LI ((b3 p b).regs)),(dL 1 ao [] ((b3 p b).mems))])⟩
abbrev jw (p : Pr) (b : List Int) : Lp (Nat) := io [2,4,5,6,7] 5 (fun (i : Nat) => ⟨[(2,(.ptr 0 0 0 0)),(4,(.ptr 1 0 0 0)),(5,(.ptr 2 0 0 0)),(6,(.ptr 3 0 0 0)),(7,(i6 (i : Int)))],[(tj p),(.var 29 [.nils,.nils]),(.var 96 [(LY b),(i6 (i : Int))]),(.var 29 [(.own 4),.nils]),(.arr 3 1 (ac .i64) 0 (tab (uF p b) i))]⟩) (fun (i : Nat) => i ≤ p.regs.length) (fun (i : Nat) => p.regs.length - i)
abbrev jx (p : Pr) (b : List Int) (i : Nat) : Lp (Nat × Nat) := xu [2,4,5,6,8] 6 (fun (j : Nat) (q : Nat) => ⟨[(2,(.ptr 0 0 0 0)),(4,(.ptr 1 0 0 0)),(5,(.ptr 2 0 0 0)),(6,(.ptr 3 0 0 0)),(8,(i6 (j : Int)))],[(tj p),(.var 29 [.nils,.nils]),(.var 96 [(LY b),(i6 (q : Int))]),(.var 29 [(.own 4),(.own 5)]),(.arr 3 1 (ac .i64) 0 (tab (uF p b) i)),(.arr 26 1 ao [] (tab (yb p b) j))]⟩) (fun (j : Nat) (q : Nat) => j ≤ p.mems.length∧q = Df p j) (fun (j : Nat) (q : Nat) => p.mems.length - j)
abbrev jy (p : Pr) (b : List Int) (i : Nat) (j : Nat) (q : Nat) : Lp (Nat) := io [2,4,5,6,8,9,10] 7 (fun (k : Nat) => ⟨[(2,(.ptr 0 0 0 0)),(4,(.ptr 1 0 0 0)),(5,(.ptr 2 0 0 0)),(6,(.ptr 3 0 0 0)),(8,(i6 (j : Int))),(9,(.own 6)),(10,(i6 (k : Int)))],[(tj p),(.var 29 [.nils,.nils]),(.var 96 [(LY b),(i6 ((q + k : Nat) : Int))]),(.var 29 [(.own 4),(.own 5)]),(.arr 3 1 (ac .i64) 0 (tab (uF p b) i)),(.arr 26 1 ao [] (tab (yb p b) j)),(.arr 3 1 (ac .i64) 0 (tab (uq p b j) k))]⟩) (fun (k : Nat) => k ≤ (p.mems.getD j ax).words.toNat) (fun (k : Nat) => (p.mems.getD j ax).words.toNat - k)
theorem yd (p : Pr) (b : List Int) (hp : cZ p) (hb : np b) : CC (D8 p b) := by
 have hl1 := hp.rl
 have hl2 := hp.ml
 refine ah.vc (V := TT 10 (GO (jw p b) 0 (∀ i,(jw p b).inv i → TT 5 (CD ((i : Int) < (p.regs.length : Int)) (TT 3 (CC (lK b i)∧TT 3 (IX (i : Int) p.regs.length∧TT 2 ((True∧IntKind.u64.wrap ((p.regs.getD i aM).w) = ((p.regs.getD i aM).w))∧SH ((p.regs.getD i aM).w)∧W6 ((2 ^ (((p.regs.getD i aM).w).toNat)) - 1)∧(True∧(IntKind.wrap .i64 (BitVec.ofInt (IntKind.i64).bits (b.getD i 0) &&& BitVec.ofInt (IntKind.i64).bits ((2 ^ (((p.regs.getD i aM).w).toNat)) - 1)).toNat) = (uF p b i))∧au [[(i6 (uF p b i))]] ([uF p b i].map (ac .i64))∧((tab (uF p b) i).length + ([uF p b i].map (ac .i64)).length ≤ 137438953472∧(tab (uF p b) i).map (ac .i64) ++ [uF p b i].map (ac .i64) = (tab (uF p b) (i + 1)).map (ac .i64))∧TT 3 (CC (iP b i 1)∧TT 2 (W6 ((i + 1 : Nat) : Int)∧TT 1 (AG (jw p b) i (i + 1)))))))) (TT 1 (GO (jx p b i) (0,i) (∀ j q,(jx p b i).inv (j,q) → TT 5 (CD ((j : Int) < (p.mems.length : Int)) (au [] (([] : List Int).map (ac .i64))∧TT 2 (GO (jy p b i j q) 0 (∀ k,(jy p b i j q).inv k → TT 4 (IX (j : Int) p.mems.length∧TT 3 (CD ((k : Int) < ((p.mems.getD j ax).words)) (TT 2 (CC (lK b (q + k))∧TT 3 (IX (j : Int) p.mems.length∧TT 2 ((True∧IntKind.u64.wrap ((p.mems.getD j ax).w) = ((p.mems.getD j ax).w))∧SH ((p.mems.getD j ax).w)∧W6 ((2 ^ (((p.mems.getD j ax).w).toNat)) - 1)∧(True∧(IntKind.wrap .i64 (BitVec.ofInt (IntKind.i64).bits (b.getD (q + k) 0) &&& BitVec.ofInt (IntKind.i64).bits ((2 ^ (((p.mems.getD j ax).w).toNat)) - 1)).toNat) = (uq p b j k))∧au [[(i6 (uq p b j k))]] ([uq p b j k].map (ac .i64))∧((tab (uq p b j) k).length + ([uq p b j k].map (ac .i64)).length ≤ 137438953472∧(tab (uq p b j) k).map (ac .i64) ++ [uq p b j k].map (ac .i64) = (tab (uq p b j) (k + 1)).map (ac .i64))∧TT 2 (CC (iP b (q + k) 1)∧TT 2 (W6 ((k + 1 : Nat) : Int)∧TT 1 (AG (jy p b i j q) k (k + 1)))))))) (TT 3 (au [[(LI (tab (uq p b j) k))]] ([tab (uq p b j) k].map ao)∧((tab (yb p b) j).length + ([tab (uq p b j) k].map ao).length ≤ 137438953472∧(tab (yb p b) j).map ao ++ [tab (uq p b j) k].map ao = (tab (yb p b) (j + 1)).map ao)∧TT 3 (W6 ((j + 1 : Nat) : Int)∧TT 1 (AG (jx p b i) (j,q) (j + 1,q + k)))))))))) (TT 3 ((tab (uF p b) i).map (ac .i64) = ((b3 p b).regs).map (ac .i64)∧(tab (yb p b) j).map ao = ((b3 p b).mems).map ao∧True)))))))))) (.g 3 3 0 3 1 (ac .i64) 0 <| .l (jw p b) 0 (fun i => .b 18 (.w 6 [(3,(lK b i).O),(10,.val (dI .u64 ((p.regs.getD i aM).w))),(11,.val (i6 (2 ^ (((p.regs.getD i aM).w).toNat)))),(12,.val (i6 ((2 ^ (((p.regs.getD i aM).w).toNat)) - 1))),(13,.val (i6 (uF p b i))),(14,.box 3 1 (ac .i64) 0 [uF p b i]),(15,.box 3 1 (ac .i64) 0 (tab (uF p b) (i + 1)))] <| .w 7 [(1,(iP b i 1).O)] <| .w 5 [(1,.val (i6 ((i + 1 : Nat) : Int)))] <| .e) (.g 8 3 1 26 1 ao [] <| .l (jx p b i) (0,i) (fun ⟨j,q⟩ => .b 44 (.w 11 [(0,.box 3 1 (ac .i64) 0 ([] : List Int))] <| .l (jy p b i j q) 0 (fun k => .b 55 (.w 15 [(2,(lK b (q + k)).O),(9,.val (dI .u64 ((p.mems.getD j ax).w))),(10,.val (i6 (2 ^ (((p.mems.getD j ax).w).toNat)))),(11,.val (i6 ((2 ^ (((p.mems.getD j ax).w).toNat)) - 1))),(12,.val (i6 (uq p b j k))),(13,.box 3 1 (ac .i64) 0 [uq p b j k]),(14,.box 3 1 (ac .i64) 0 (tab (uq p b j) (k + 1)))] <| .w 16 [(1,(iP b (q + k) 1).O)] <| .w 14 [(1,.val (i6 ((k + 1 : Nat) : Int)))] <| .e) (.f 17 6 <| .w 17 [(3,.box 26 1 ao [] [tab (uq p b j) k]),(4,.box 26 1 ao [] (tab (yb p b) (j + 1)))] <| .w 10 [(1,.val (i6 ((j + 1 : Nat) : Int)))] <| .e))) (.e))))) Try.func12 rfl rfl rfl (by kernel_rfl) ?_
 refine tt ⟨rfl,(by omega),?_⟩
 intro i hinv
 have hi := hinv
 refine tt (cd (fun hc18 => ?_) (fun hc18 => ?_))
 · have hy := bM hb i
   have hw : 1 ≤ (p.regs.getD i aM).w∧(p.regs.getD i aM).w ≤ 8 := aE.1 (hp.rw i (by omega)).1
   refine tt ⟨(cT b i hb),tt ⟨ix,tt ⟨⟨oK,pY rfl om om⟩,⟨sh,⟨(w6 (by have := dV (n := (p.regs.getD i aM).w.toNat) (by omega); omega) (by have := dV (n := (p.regs.getD i aM).w.toNat) (by omega); omega)),⟨⟨oK,(dU (by omega))⟩,⟨⟨⟨rfl,oK⟩,oK⟩,⟨(bO (by omega) rfl),tt ⟨(dZ b i 1 om),tt ⟨w6,tt ⟨(i + 1),rfl,(?_ : (i + 1) ≤ p.regs.length),(?_ : p.regs.length - (i + 1) < p.regs.length - i)⟩⟩⟩⟩⟩⟩⟩⟩⟩⟩⟩
   · omega
   · omega
 · have hie : i = p.regs.length := by omega
   refine tt ⟨rfl,⟨by omega,by rw [hie]; rfl⟩,?_⟩
   intro j q hinv
   obtain ⟨hj,hq⟩ := hinv
   have hqb := Ar hp j (by omega)
   refine tt (cd (fun hc44 => ?_) (fun hc44 => ?_))
   · have hmw : 1 ≤ (p.mems.getD j ax).words∧(p.mems.getD j ax).words ≤ 4 := (hp.mw j (by omega)).2.1
     refine ⟨oK,tt ⟨rfl,(by omega),?_⟩⟩
     intro k hinv
     have hk := hinv
     refine tt ⟨ix,tt (cd (fun hc55 => ?_) (fun hc55 => ?_))⟩
     · have hy := bM hb (q + k)
       have hw : 1 ≤ (p.mems.getD j ax).w∧(p.mems.getD j ax).w ≤ 8 := aE.1 (hp.mw j (by omega)).1
       refine tt ⟨(cT b (q + k) hb),tt ⟨ix,tt ⟨⟨oK,pY rfl om om⟩,⟨sh,⟨(w6 (by have := dV (n := (p.mems.getD j ax).w.toNat) (by omega); omega) (by have := dV (n := (p.mems.getD j ax).w.toNat) (by omega); omega)),⟨⟨oK,(by unfold uq; rw [← hq]; exact dU (by omega))⟩,⟨⟨⟨rfl,oK⟩,oK⟩,⟨(bO (by omega) rfl),tt ⟨(dZ b (q + k) 1 om),tt ⟨w6,tt ⟨(k + 1),rfl,(?_ : (k + 1) ≤ (p.mems.getD j ax).words.toNat),(?_ : (p.mems.getD j ax).words.toNat - (k + 1) < (p.mems.getD j ax).words.toNat - k)⟩⟩⟩⟩⟩⟩⟩⟩⟩⟩⟩
       · omega
       · omega
     · have hke : k = (p.mems.getD j ax).words.toNat := by omega
       refine tt ⟨⟨⟨rfl,oK⟩,oK⟩,⟨(bO (by omega) (by rw [hke]; rfl)),tt ⟨w6,tt ⟨(j + 1,q + k),rfl,?_,(?_ : p.mems.length - (j + 1) < p.mems.length - j)⟩⟩⟩⟩
       · exact ⟨by omega,by rw [hq,hke]; rfl⟩
       · omega
   · have hje : j = p.mems.length := by omega
     refine tt ⟨(congrArg _ (?_ : (tab (uF p b) i) = ((b3 p b).regs))),(congrArg _ (?_ : (tab (yb p b) j) = ((b3 p b).mems))),oK⟩
     all_goals (first | (rw [hie]; rfl) | (rw [hje]; rfl))
abbrev ES (p : Pr) (b : List Int) : Ct := ⟨13,[(yc p),(LY b)],true,(.agg [(dL 2 cK bp (ss p b)),(LB (fZ p b))])⟩
abbrev nN (p : Pr) (b : List Int) : Lp (Nat) := io [2,4,5,6,7] 5 (fun (i : Nat) => ⟨[(2,(.ptr 0 0 0 0)),(4,(.ptr 1 0 0 0)),(5,(.ptr 2 0 0 0)),(6,(.ptr 3 0 0 0)),(7,(i6 (i : Int)))],[(tj p),(.var 43 [.nils,.nils]),(.var 96 [(LY b),(i6 (i : Int))]),(.var 43 [(.own 4),.nils]),(.arr 69 2 cK bp (tab (Bz p b) i))]⟩) (fun (i : Nat) => i ≤ p.takes.length) (fun (i : Nat) => p.takes.length - i)
abbrev nO (p : Pr) (b : List Int) (i : Nat) : Lp (Nat) := io [2,4,5,6,9] 6 (fun (m : Nat) => ⟨[(2,(.ptr 0 0 0 0)),(4,(.ptr 1 0 0 0)),(5,(.ptr 2 0 0 0)),(6,(.ptr 3 0 0 0)),(9,(i6 (m : Int)))],[(tj p),(.var 43 [.nils,.nils]),(.var 96 [(LY b),(i6 ((i + m : Nat) : Int))]),(.var 43 [(.own 4),(.own 5)]),(.arr 69 2 cK bp (tab (Bz p b) i)),(.arr 4 1 b6 false (tab (B6 p b) m))]⟩) (fun (m : Nat) => m ≤ p.puts.length) (fun (m : Nat) => p.puts.length - m)
theorem D9 (p : Pr) (b : List Int) (hp : cZ p) (hb : np b) : CC (ES p b) := by
 have hl1 := hp.tl
 have hl2 := hp.pl
 refine ah.vc (V := TT 10 (GO (nN p b) 0 (∀ i,(nN p b).inv i → TT 5 (CD ((i : Int) < (p.takes.length : Int)) (TT 1 (CC (lK b i)∧TT 4 (QM (b.getD i 0) 4∧TT 2 (QD (b.getD i 0) 4∧TT 3 (IX (i : Int) p.takes.length∧TT 2 ((True∧IntKind.u64.wrap ((p.takes.getD i aX).w) = ((p.takes.getD i aX).w))∧SH ((p.takes.getD i aX).w)∧W6 ((2 ^ (((p.takes.getD i aX).w).toNat)) - 1)∧(True∧(IntKind.wrap .i64 (BitVec.ofInt (IntKind.i64).bits ((b.getD i 0) / 4) &&& BitVec.ofInt (IntKind.i64).bits ((2 ^ (((p.takes.getD i aX).w).toNat)) - 1)).toNat) = (b.getD i 0 / 4 % 2 ^ (p.takes.getD i aX).w.toNat))∧TT 1 (au [[(dB (((b.getD i 0) % 4) != 3)),(i6 (b.getD i 0 / 4 % 2 ^ (p.takes.getD i aX).w.toNat))]] ([(⟨((b.getD i 0) % 4) != 3,b.getD i 0 / 4 % 2 ^ (p.takes.getD i aX).w.toNat⟩ : Hd)].map cK)∧((tab (Bz p b) i).length + ([(⟨((b.getD i 0) % 4) != 3,b.getD i 0 / 4 % 2 ^ (p.takes.getD i aX).w.toNat⟩ : Hd)].map cK).length ≤ 137438953472∧(tab (Bz p b) i).map cK ++ [(⟨((b.getD i 0) % 4) != 3,b.getD i 0 / 4 % 2 ^ (p.takes.getD i aX).w.toNat⟩ : Hd)].map cK = (tab (Bz p b) (i + 1)).map cK)∧TT 3 (CC (iP b i 1)∧TT 2 (W6 ((i + 1 : Nat) : Int)∧TT 1 (AG (nN p b) i (i + 1))))))))))) (TT 1 (GO (nO p b i) 0 (∀ m,(nO p b i).inv m → TT 5 (CD ((m : Int) < (p.puts.length : Int)) (TT 3 (CC (lK b (i + m))∧QM (b.getD (i + m) 0) 4∧TT 1 (au [[(dB (((b.getD (i + m) 0) % 4) != 3))]] ([((b.getD (i + m) 0) % 4) != 3].map b6)∧((tab (B6 p b) m).length + ([((b.getD (i + m) 0) % 4) != 3].map b6).length ≤ 137438953472∧(tab (B6 p b) m).map b6 ++ [((b.getD (i + m) 0) % 4) != 3].map b6 = (tab (B6 p b) (m + 1)).map b6)∧TT 3 (CC (iP b (i + m) 1)∧TT 2 (W6 ((m + 1 : Nat) : Int)∧TT 1 (AG (nO p b i) m (m + 1))))))) (TT 3 ((tab (Bz p b) i).map cK = (ss p b).map cK∧(tab (B6 p b) m).map b6 = (fZ p b).map b6∧True)))))))))) (.g 3 3 0 69 2 cK bp <| .l (nN p b) 0 (fun i => .b 17 (.w 6 [(1,(lK b i).O)] <| .w 7 [(3,.val (i6 ((b.getD i 0) % 4))),(6,.val (i6 ((b.getD i 0) / 4))),(13,.val (dI .u64 ((p.takes.getD i aX).w))),(14,.val (i6 (2 ^ (((p.takes.getD i aX).w).toNat)))),(15,.val (i6 ((2 ^ (((p.takes.getD i aX).w).toNat)) - 1))),(16,.val (i6 (b.getD i 0 / 4 % 2 ^ (p.takes.getD i aX).w.toNat))),(18,.box 69 2 cK bp [(⟨((b.getD i 0) % 4) != 3,b.getD i 0 / 4 % 2 ^ (p.takes.getD i aX).w.toNat⟩ : Hd)]),(19,.box 69 2 cK bp (tab (Bz p b) (i + 1)))] <| .w 8 [(1,(iP b i 1).O)] <| .w 5 [(1,.val (i6 ((i + 1 : Nat) : Int)))] <| .e) (.g 9 3 1 4 1 b6 false <| .l (nO p b i) 0 (fun m => .b 49 (.w 12 [(3,(lK b (i + m)).O),(4,.val (i6 ((b.getD (i + m) 0) % 4))),(6,.box 4 1 b6 false [((b.getD (i + m) 0) % 4) != 3]),(7,.box 4 1 b6 false (tab (B6 p b) (m + 1)))] <| .w 13 [(1,(iP b (i + m) 1).O)] <| .w 11 [(1,.val (i6 ((m + 1 : Nat) : Int)))] <| .e) (.e))))) Try.func13 rfl rfl rfl (by kernel_rfl) ?_
 refine tt ⟨rfl,(by omega),?_⟩
 intro i hinv
 have hi := hinv
 refine tt (cd (fun hc17 => ?_) (fun hc17 => ?_))
 · refine tt ⟨(cT b i hb),?_⟩
   have hy := bM hb i
   have hw : 1 ≤ (p.takes.getD i aX).w∧(p.takes.getD i aX).w ≤ 8 := aE.1 (hp.tw i (by omega)).1
   refine tt ⟨qm,tt ⟨qd,tt ⟨ix,tt ⟨⟨oK,pY rfl om om⟩,⟨sh,⟨(w6 (by have := dV (n := (p.takes.getD i aX).w.toNat) (by omega); omega) (by have := dV (n := (p.takes.getD i aX).w.toNat) (by omega); omega)),⟨⟨oK,(dU (by omega))⟩,tt ⟨⟨⟨rfl,rfl,oK⟩,oK⟩,⟨(bO (by omega) rfl),tt ⟨(dZ b i 1 om),tt ⟨w6,tt ⟨(i + 1),rfl,(?_ : (i + 1) ≤ p.takes.length),(?_ : p.takes.length - (i + 1) < p.takes.length - i)⟩⟩⟩⟩⟩⟩⟩⟩⟩⟩⟩⟩
   · omega
   · omega
 · have hie : i = p.takes.length := by omega
   refine tt ⟨rfl,(by omega),?_⟩
   intro m hinv
   have hm := hinv
   refine tt (cd (fun hc49 => ?_) (fun hc49 => ?_))
   · have hy := bM hb (i + m)
     refine tt ⟨(cT b (i + m) hb),⟨qm,tt ⟨⟨⟨rfl,oK⟩,oK⟩,⟨(bO (by omega) (by rw [hie]; rfl)),tt ⟨(dZ b (i + m) 1 om),tt ⟨w6,tt ⟨(m + 1),rfl,(?_ : (m + 1) ≤ p.puts.length),(?_ : p.puts.length - (m + 1) < p.puts.length - m)⟩⟩⟩⟩⟩⟩⟩
     · omega
     · omega
   · have hme : m = p.puts.length := by omega
     refine tt ⟨(congrArg _ (?_ : (tab (Bz p b) i) = (ss p b))),(congrArg _ (?_ : (tab (B6 p b) m) = (fZ p b))),oK⟩
     all_goals (first | (rw [hie]; rfl) | (rw [hme]; rfl))
abbrev Ea (p : Pr) (b : List Int) : Ct := ⟨14,[(yc p),(LY b)],true,(LI (cM p b))⟩
abbrev ib (p : Pr) (b : List Int) : Lp (Nat × List Int) := xu [1,2,5,6] 2 (fun (i : Nat) (vl : List Int) => ⟨[(1,(LY b)),(2,(.ptr 0 0 0 0)),(5,(.own 1)),(6,(i6 (i : Int)))],[(tj p),(.arr 3 1 (ac .i64) 0 vl)]⟩) (fun (i : Nat) (vl : List Int) => i ≤ p.takes.length∧vl = da (zb p b) (List.replicate p.takes.length (0 : Int)) i) (fun (i : Nat) (vl : List Int) => p.takes.length - i)
theorem vL (p : Pr) (b : List Int) (hp : cZ p) (hb : np b) (hbl : b.length ≤ 9223372036854775807) : CC (Ea p b) := by
 have hl1 := hp.tl
 refine ah.vc (V := TT 5 ((((0 : Int) ≤ (p.takes.length : Int)∧(p.takes.length : Int) ≤ (p.takes.length : Int)∧(p.takes.length : Int) ≤ 137438953472)∧(List.replicate p.takes.length (0 : Int)).length = p.takes.length∧∀ x ∈ (List.replicate p.takes.length (0 : Int)),ec [(i6 0)] ((ac .i64) x))∧TT 2 (GO (ib p b) (0,List.replicate p.takes.length (0 : Int)) (∀ i vl,(ib p b).inv (i,vl) → CS ((i : Int) < (vl.length : Int)) (TT 4 ((True∧(decide ((i : Int) < (vl.length : Int))) = true)∧TT 5 (CD ((i : Int) < (b.length : Int)) (TT 4 (IX (i : Int) b.length∧TT 1 (W6 (b.getD i 0)∧TT 3 (IX (i : Int) p.takes.length∧TT 2 ((True∧IntKind.u64.wrap ((p.takes.getD i aX).w) = ((p.takes.getD i aX).w))∧SH ((p.takes.getD i aX).w)∧W6 ((2 ^ (((p.takes.getD i aX).w).toNat)) - 1)∧(True∧(IntKind.wrap .i64 (BitVec.ofInt (IntKind.i64).bits (b.getD i 0) &&& BitVec.ofInt (IntKind.i64).bits ((2 ^ (((p.takes.getD i aX).w).toNat)) - 1)).toNat) = (zb p b i))∧IX (i : Int) vl.length∧(i < vl.length∧(vl.map (ac .i64)).set i (((ac .i64) (vl.getD i 0)).take 0 ++ [(.int .i64 (zb p b i))] ++ ((ac .i64) (vl.getD i 0)).drop (0 + 1)) = (vl.set i (zb p b i)).map (ac .i64))∧TT 1 (W6 ((i + 1 : Nat) : Int)∧TT 1 (AG (ib p b) (i,vl) (i + 1,vl.set i (zb p b i))))))))) (TT 3 (vl.map (ac .i64) = (cM p b).map (ac .i64)))))) (TT 4 ((True∧(decide ((i : Int) < (vl.length : Int))) = false)∧TT 8 (vl.map (ac .i64) = (cM p b).map (ac .i64)))))))) (.w 1 [(3,.box 3 1 (ac .i64) 0 (List.replicate p.takes.length (0 : Int)))] <| .l (ib p b) (0,List.replicate p.takes.length (0 : Int)) (fun ⟨i,vl⟩ => .s 3 ((i : Int) < (vl.length : Int)) (.w 3 [(4,.val (dB true))] <| .b 20 (.w 5 [(6,.val (i6 (b.getD i 0))),(13,.val (dI .u64 ((p.takes.getD i aX).w))),(14,.val (i6 (2 ^ (((p.takes.getD i aX).w).toNat)))),(15,.val (i6 ((2 ^ (((p.takes.getD i aX).w).toNat)) - 1))),(16,.val (i6 (zb p b i))),(18,.box 3 1 (ac .i64) 0 (vl.set i (zb p b i)))] <| .w 4 [(1,.val (i6 ((i + 1 : Nat) : Int)))] <| .e) (.e)) (.w 3 [(4,.val (dB false))] <| .e))) Try.func14 rfl rfl rfl (by kernel_rfl) ?_
 refine tt ⟨⟨by omega,List.length_replicate,fun x hx => by rw [List.eq_of_mem_replicate hx]; exact ⟨rfl,oK⟩⟩,tt ⟨rfl,⟨by omega,rfl⟩,?_⟩⟩
 intro i vl hinv
 obtain ⟨hi,hvl⟩ := hinv
 have hvll : vl.length = p.takes.length := by rw [hvl,cv (by rw [List.length_replicate]; exact hi),List.length_replicate]
 refine ⟨fun hs0 => ?_,fun hs0 => ?_⟩
 · refine tt ⟨(vT hs0),tt (cd (fun hc20 => ?_) (fun hc20 => ?_))⟩
   · have hy := bM hb i
     have hw : 1 ≤ (p.takes.getD i aX).w∧(p.takes.getD i aX).w ≤ 8 := aE.1 (hp.tw i (by omega)).1
     refine tt ⟨ix,tt ⟨w6,tt ⟨ix,tt ⟨⟨oK,pY rfl om om⟩,⟨sh,⟨(w6 (by have := dV (n := (p.takes.getD i aX).w.toNat) (by omega); omega) (by have := dV (n := (p.takes.getD i aX).w.toNat) (by omega); omega)),⟨⟨oK,(dU (by omega))⟩,⟨ix,⟨⟨by omega,by simp only [List.map_set]; rfl⟩,tt ⟨w6,tt ⟨(i + 1,vl.set i (zb p b i)),rfl,?_,(?_ : p.takes.length - (i + 1) < p.takes.length - i)⟩⟩⟩⟩⟩⟩⟩⟩⟩⟩⟩
     · exact ⟨by omega,by rw [hvl]; exact bN (by rw [List.length_replicate]; omega) rfl⟩
     · omega
   · refine tt (congrArg _ (?_ : vl = (cM p b)))
     rw [hvl]; first | exact nM (by omega) (.inl (by omega)) | exact nM (by omega) (.inr (by omega))
 · refine tt ⟨(vF hs0),tt (congrArg _ (?_ : vl = (cM p b)))⟩
   rw [hvl]; first | exact nM (by omega) (.inl (by omega)) | exact nM (by omega) (.inr (by omega))
abbrev ET (p : Pr) (s : Ps) (hs : List Hd) (rs : List Bool) : Ct := ⟨21,[(yc p),(.agg [(LI s.regs),(dL 1 ao [] s.mems)]),(.agg [(dL 2 cK bp hs),(LB rs)])],true,(.agg [(dB ((az p s hs rs).fires)),(LI (((az p s hs rs).s).regs)),(dL 1 ao [] (((az p s hs rs).s).mems)),(LB ((az p s hs rs).pops)),(dL 2 cK bp ((az p s hs rs).puts))])⟩
theorem BB (p : Pr) (s : Ps) (hs : List Hd) (rs : List Bool) (hp : cZ p) (hso : kf p s) (hh : sn p hs) (hrs : rs.length = p.puts.length) : CC (ET p s hs rs) := by
 refine ah.vc (V := TT 10 (CC (y8 p s hs rs)∧TT 2 (((az p s hs rs).fires) = ((az p s hs rs).fires)∧(((az p s hs rs).s).regs).map (ac .i64) = (((az p s hs rs).s).regs).map (ac .i64)∧(((az p s hs rs).s).mems).map ao = (((az p s hs rs).s).mems).map ao∧((az p s hs rs).pops).map b6 = ((az p s hs rs).pops).map b6∧((az p s hs rs).puts).map cK = ((az p s hs rs).puts).map cK∧True))) (.w 1 [(6,(y8 p s hs rs).O)] <| .e) Try.func21 rfl rfl rfl (by kernel_rfl) ?_
 exact tt ⟨(nC p s hs rs hp hso hh hrs),tt ⟨rfl,rfl,rfl,rfl,rfl,oK⟩⟩
abbrev BC (op k w : Int) (n : Nat) : Ct := ⟨59,[(i6 op),(i6 k),(i6 w)],true,(.agg [(i6 ((bj op k w).op)),(dS ((bj op k w).name)),(i6 (((bj op k w).k).n)),(dS (((bj op k w).k).p)),(i6 (((bj op k w).w).n)),(dS (((bj op k w).w).p)),(dL 7 (eA n) dE ((bj op k w).args))])⟩
theorem uu (op k w : Int) (n : Nat) : CC (BC op k w n) := by
 refine ah.vc (V := TT 9 (op = ((bj op k w).op)∧e0 = ((bj op k w).name)∧k = (((bj op k w).k).n)∧e0 = (((bj op k w).k).p)∧w = (((bj op k w).w).n)∧e0 = (((bj op k w).w).p)∧((bj op k w).args) = []∧True)) (.e) Try.func59 rfl rfl rfl (by kernel_rfl) ?_
 refine tt ⟨?_,?_,?_,?_,?_,?_,?_,oK⟩
 all_goals (rfl)
abbrev EU : Ct := ⟨33,[],true,(.agg [(dS bQ.name),(dS bQ.clock),(dL 13 bS aM bQ.regs),(dL 27 dW ax bQ.mems),(dL 9 bU aX bQ.takes),(dL 16 bL bg bQ.puts)])⟩
theorem y4  : CC EU := by
 refine ah.vc (V := TT 1 (CC (BC 16 0 0 1)∧TT 3 (CC (BC 18 0 0 1)∧au [[(i6 ((bj 16 0 0).op)),(dS ((bj 16 0 0).name)),(i6 (((bj 16 0 0).k).n)),(dS (((bj 16 0 0).k).p)),(i6 (((bj 16 0 0).w).n)),(dS (((bj 16 0 0).w).p)),(dL 7 (eA 1) dE ((bj 16 0 0).args))],[(i6 ((bj 18 0 0).op)),(dS ((bj 18 0 0).name)),(i6 (((bj 18 0 0).k).n)),(dS (((bj 18 0 0).k).p)),(i6 (((bj 18 0 0).w).n)),(dS (((bj 18 0 0).w).p)),(dL 7 (eA 1) dE ((bj 18 0 0).args))]] ([bj 16 0 0,bj 18 0 0].map (eA 2))∧TT 2 (au [[(dS (bs [114])),(i6 2),(i6 1),(i6 6),(dS e0),(i6 0),(dS e0),(i6 0),(dS e0),(dL 7 (eA 2) dE [bj 16 0 0,bj 18 0 0]),(i6 0),(dS e0),(i6 0)]] ([(⟨bs [114],2,1,ur,vw⟩ : Rg)].map bS)∧CC (BC 1 1 1 1)∧TT 1 (au [[(i6 0),(i6 2),(i6 ((bj 1 1 1).op)),(dS ((bj 1 1 1).name)),(i6 (((bj 1 1 1).k).n)),(dS (((bj 1 1 1).k).p)),(i6 (((bj 1 1 1).w).n)),(dS (((bj 1 1 1).w).p)),(dL 7 (eA 1) dE ((bj 1 1 1).args))]] ([(⟨0,2,bj 1 1 1⟩ : Tk)].map bU)∧TT 1 (CC (BC 1 3 2 1)∧au [[(i6 ((bj 16 0 0).op)),(dS ((bj 16 0 0).name)),(i6 (((bj 16 0 0).k).n)),(dS (((bj 16 0 0).k).p)),(i6 (((bj 16 0 0).w).n)),(dS (((bj 16 0 0).w).p)),(dL 7 (eA 1) dE ((bj 16 0 0).args))],[(i6 ((bj 1 3 2).op)),(dS ((bj 1 3 2).name)),(i6 (((bj 1 3 2).k).n)),(dS (((bj 1 3 2).k).p)),(i6 (((bj 1 3 2).w).n)),(dS (((bj 1 3 2).w).p)),(dL 7 (eA 1) dE ((bj 1 3 2).args))]] ([bj 16 0 0,bj 1 3 2].map (eA 2))∧TT 3 (au [[(i6 1),(i6 2),(i6 8),(dS e0),(i6 0),(dS e0),(i6 0),(dS e0),(dL 7 (eA 2) dE [bj 16 0 0,bj 1 3 2]),(i6 ((bj 16 0 0).op)),(dS ((bj 16 0 0).name)),(i6 (((bj 16 0 0).k).n)),(dS (((bj 16 0 0).k).p)),(i6 (((bj 16 0 0).w).n)),(dS (((bj 16 0 0).w).p)),(dL 7 (eA 1) dE ((bj 16 0 0).args))]] ([(⟨1,2,Dg,bj 16 0 0⟩ : Pt)].map bL)∧TT 3 ((bs [112]) = bQ.name∧(bs [99]) = bQ.clock∧[(⟨bs [114],2,1,ur,vw⟩ : Rg)].map bS = bQ.regs.map bS∧bQ.mems = []∧[(⟨0,2,bj 1 1 1⟩ : Tk)].map bU = bQ.takes.map bU∧[(⟨1,2,Dg,bj 16 0 0⟩ : Pt)].map bL = bQ.puts.map bL∧True)))))))) (.w 1 [(0,(BC 16 0 0 1).O)] <| .w 2 [(1,(BC 18 0 0 1).O),(2,.box 60 7 (eA 2) dE [bj 16 0 0,bj 18 0 0]),(5,.box 92 13 bS aM [(⟨bs [114],2,1,ur,vw⟩ : Rg)]),(6,(BC 1 1 1 1).O),(8,.box 71 9 bU aX [(⟨0,2,bj 1 1 1⟩ : Tk)]),(10,(BC 1 3 2 1).O),(11,.box 60 7 (eA 2) dE [bj 16 0 0,bj 1 3 2]),(15,.box 73 16 bL bg [(⟨1,2,Dg,bj 16 0 0⟩ : Pt)])] <| .e) Try.func33 rfl rfl rfl (by kernel_rfl) ?_
 refine tt ⟨(uu 16 0 0 1),tt ⟨(uu 18 0 0 1),⟨⟨⟨rfl,rfl,rfl,rfl,rfl,rfl,rfl,oK⟩,⟨rfl,rfl,rfl,rfl,rfl,rfl,rfl,oK⟩,oK⟩,tt ⟨⟨⟨rfl,rfl,rfl,rfl,rfl,rfl,rfl,rfl,rfl,rfl,rfl,rfl,rfl,oK⟩,oK⟩,⟨(uu 1 1 1 1),tt ⟨⟨⟨rfl,rfl,rfl,rfl,rfl,rfl,rfl,rfl,rfl,oK⟩,oK⟩,tt ⟨(uu 1 3 2 1),⟨⟨⟨rfl,rfl,rfl,rfl,rfl,rfl,rfl,oK⟩,⟨rfl,rfl,rfl,rfl,rfl,rfl,rfl,oK⟩,oK⟩,tt ⟨⟨⟨rfl,rfl,rfl,rfl,rfl,rfl,rfl,rfl,rfl,rfl,rfl,rfl,rfl,rfl,rfl,rfl,oK⟩,oK⟩,tt ⟨?_,?_,(congrArg _ (?_ : [(⟨bs [114],2,1,ur,vw⟩ : Rg)] = bQ.regs)),?_,(congrArg _ (?_ : [(⟨0,2,bj 1 1 1⟩ : Tk)] = bQ.takes)),(congrArg _ (?_ : [(⟨1,2,Dg,bj 16 0 0⟩ : Pt)] = bQ.puts)),oK⟩⟩⟩⟩⟩⟩⟩⟩⟩⟩
 all_goals (rfl)
end Go.Proofs.Ytgfbfajaaaegjaa
