/-
  The laws of processes: described states, words and data; examples.
-/
import Derived.Test.YtgfbfajaaaegjaaQPcA
import Derived.Test.YtgfbfajaaaegjaaQPrB
import Derived.Test.YtgfbfajaaaegjaaQPrD
import Derived.Test.YtgfbfajaaaegjaaQPcG
namespace Go.Proofs.Ytgfbfajaaaegjaa
open Go.RowKit
set_option linter.unusedVariables false
set_option linter.unusedSimpArgs false
abbrev sG (p : Pr) : ax := (.var 37 [(dS p.name),(dS p.clock),(dL 13 bR aI p.regs),(dL 27 dD aj p.mems),(dL 9 bV bp p.takes),(dL 16 bS bj p.puts)])
abbrev wY (p : Pr) : D := (.agg [(dS p.name),(dS p.clock),(dL 13 bR aI p.regs),(dL 27 dD aj p.mems),(dL 9 bV bp p.takes),(dL 16 bS bj p.puts)])
set_option maxRecDepth 100000
abbrev Bv (p : Pr) (b : List Int) : Ct := ⟨12,[(wY p),(LY b)],true,(.agg [(LI ((aM p b).regs)),(dL 1 aJ [] ((aM p b).mems))])⟩
abbrev jo (p : Pr) (b : List Int) : Lp (Nat) := iT [2,4,5,6,7] 5 (fun (i : Nat) => ⟨[(2,(.ptr 0 0 0 0)),(4,(.ptr 1 0 0 0)),(5,(.ptr 2 0 0 0)),(6,(.ptr 3 0 0 0)),(7,(i6 (i : Int)))],[(sG p),(.var 29 [.nils,.nils]),(.var 96 [(LY b),(i6 (i : Int))]),(.var 29 [(.own 4),.nils]),(.arr 3 1 (ac .i64) 0 (tab (tM p b) i))]⟩) (fun (i : Nat) => i ≤ p.regs.length) (fun (i : Nat) => p.regs.length - i)
abbrev jp (p : Pr) (b : List Int) (i : Nat) : Lp (Nat × Nat) := Az [2,4,5,6,8] 6 (fun (j : Nat) (q : Nat) => ⟨[(2,(.ptr 0 0 0 0)),(4,(.ptr 1 0 0 0)),(5,(.ptr 2 0 0 0)),(6,(.ptr 3 0 0 0)),(8,(i6 (j : Int)))],[(sG p),(.var 29 [.nils,.nils]),(.var 96 [(LY b),(i6 (q : Int))]),(.var 29 [(.own 4),(.own 5)]),(.arr 3 1 (ac .i64) 0 (tab (tM p b) i)),(.arr 26 1 aJ [] (tab (wX p b) j))]⟩) (fun (j : Nat) (q : Nat) => j ≤ p.mems.length∧q = BE p j) (fun (j : Nat) (q : Nat) => p.mems.length - j)
abbrev jq (p : Pr) (b : List Int) (i : Nat) (j : Nat) (q : Nat) : Lp (Nat) := iT [2,4,5,6,8,9,10] 7 (fun (k : Nat) => ⟨[(2,(.ptr 0 0 0 0)),(4,(.ptr 1 0 0 0)),(5,(.ptr 2 0 0 0)),(6,(.ptr 3 0 0 0)),(8,(i6 (j : Int))),(9,(.own 6)),(10,(i6 (k : Int)))],[(sG p),(.var 29 [.nils,.nils]),(.var 96 [(LY b),(i6 ((q + k : Nat) : Int))]),(.var 29 [(.own 4),(.own 5)]),(.arr 3 1 (ac .i64) 0 (tab (tM p b) i)),(.arr 26 1 aJ [] (tab (wX p b) j)),(.arr 3 1 (ac .i64) 0 (tab (tC p b j) k))]⟩) (fun (k : Nat) => k ≤ (p.mems.getD j aj).words.toNat) (fun (k : Nat) => (p.mems.getD j aj).words.toNat - k)
theorem tF (p : Pr) (b : List Int) (hp : dh p) (hb : lY b) : CC (Bv p b) := by
 have hl1 := hp.rl
 have hl2 := hp.ml
 refine ai.vc (V := TT 10 (GO (jo p b) 0 (∀ i,(jo p b).inv i → TT 5 (CD ((i : Int) < (p.regs.length : Int)) (TT 3 (CC (lp b i)∧TT 3 (IX (i : Int) p.regs.length∧TT 2 ((True∧IntKind.u64.wrap ((p.regs.getD i aI).w) = ((p.regs.getD i aI).w))∧SH ((p.regs.getD i aI).w)∧W6 ((2 ^ (((p.regs.getD i aI).w).toNat)) - 1)∧(True∧(IntKind.wrap .i64 (BitVec.ofInt (IntKind.i64).bits (b.getD i 0) &&& BitVec.ofInt (IntKind.i64).bits ((2 ^ (((p.regs.getD i aI).w).toNat)) - 1)).toNat) = (tM p b i))∧ay [[(i6 (tM p b i))]] ([tM p b i].map (ac .i64))∧((tab (tM p b) i).length + ([tM p b i].map (ac .i64)).length ≤ 137438953472∧(tab (tM p b) i).map (ac .i64) ++ [tM p b i].map (ac .i64) = (tab (tM p b) (i + 1)).map (ac .i64))∧TT 3 (CC (iJ b i 1)∧TT 2 (W6 ((i + 1 : Nat) : Int)∧TT 1 (AG (jo p b) i (i + 1)))))))) (TT 1 (GO (jp p b i) (0,i) (∀ j q,(jp p b i).inv (j,q) → TT 5 (CD ((j : Int) < (p.mems.length : Int)) (ay [] (([] : List Int).map (ac .i64))∧TT 2 (GO (jq p b i j q) 0 (∀ k,(jq p b i j q).inv k → TT 4 (IX (j : Int) p.mems.length∧TT 3 (CD ((k : Int) < ((p.mems.getD j aj).words)) (TT 2 (CC (lp b (q + k))∧TT 3 (IX (j : Int) p.mems.length∧TT 2 ((True∧IntKind.u64.wrap ((p.mems.getD j aj).w) = ((p.mems.getD j aj).w))∧SH ((p.mems.getD j aj).w)∧W6 ((2 ^ (((p.mems.getD j aj).w).toNat)) - 1)∧(True∧(IntKind.wrap .i64 (BitVec.ofInt (IntKind.i64).bits (b.getD (q + k) 0) &&& BitVec.ofInt (IntKind.i64).bits ((2 ^ (((p.mems.getD j aj).w).toNat)) - 1)).toNat) = (tC p b j k))∧ay [[(i6 (tC p b j k))]] ([tC p b j k].map (ac .i64))∧((tab (tC p b j) k).length + ([tC p b j k].map (ac .i64)).length ≤ 137438953472∧(tab (tC p b j) k).map (ac .i64) ++ [tC p b j k].map (ac .i64) = (tab (tC p b j) (k + 1)).map (ac .i64))∧TT 2 (CC (iJ b (q + k) 1)∧TT 2 (W6 ((k + 1 : Nat) : Int)∧TT 1 (AG (jq p b i j q) k (k + 1)))))))) (TT 3 (ay [[(LI (tab (tC p b j) k))]] ([tab (tC p b j) k].map aJ)∧((tab (wX p b) j).length + ([tab (tC p b j) k].map aJ).length ≤ 137438953472∧(tab (wX p b) j).map aJ ++ [tab (tC p b j) k].map aJ = (tab (wX p b) (j + 1)).map aJ)∧TT 3 (W6 ((j + 1 : Nat) : Int)∧TT 1 (AG (jp p b i) (j,q) (j + 1,q + k)))))))))) (TT 3 ((tab (tM p b) i).map (ac .i64) = ((aM p b).regs).map (ac .i64)∧(tab (wX p b) j).map aJ = ((aM p b).mems).map aJ∧True)))))))))) (.g 3 3 0 3 1 (ac .i64) 0 <| .l (jo p b) 0 (fun i => .b 18 (.w 6 [(3,(lp b i).O),(10,.val (dI .u64 ((p.regs.getD i aI).w))),(11,.val (i6 (2 ^ (((p.regs.getD i aI).w).toNat)))),(12,.val (i6 ((2 ^ (((p.regs.getD i aI).w).toNat)) - 1))),(13,.val (i6 (tM p b i))),(14,.box 3 1 (ac .i64) 0 [tM p b i]),(15,.box 3 1 (ac .i64) 0 (tab (tM p b) (i + 1)))] <| .w 7 [(1,(iJ b i 1).O)] <| .w 5 [(1,.val (i6 ((i + 1 : Nat) : Int)))] <| .e) (.g 8 3 1 26 1 aJ [] <| .l (jp p b i) (0,i) (fun ⟨j,q⟩ => .b 44 (.w 11 [(0,.box 3 1 (ac .i64) 0 ([] : List Int))] <| .l (jq p b i j q) 0 (fun k => .b 55 (.w 15 [(2,(lp b (q + k)).O),(9,.val (dI .u64 ((p.mems.getD j aj).w))),(10,.val (i6 (2 ^ (((p.mems.getD j aj).w).toNat)))),(11,.val (i6 ((2 ^ (((p.mems.getD j aj).w).toNat)) - 1))),(12,.val (i6 (tC p b j k))),(13,.box 3 1 (ac .i64) 0 [tC p b j k]),(14,.box 3 1 (ac .i64) 0 (tab (tC p b j) (k + 1)))] <| .w 16 [(1,(iJ b (q + k) 1).O)] <| .w 14 [(1,.val (i6 ((k + 1 : Nat) : Int)))] <| .e) (.f 17 6 <| .w 17 [(3,.box 26 1 aJ [] [tab (tC p b j) k]),(4,.box 26 1 aJ [] (tab (wX p b) (j + 1)))] <| .w 10 [(1,.val (i6 ((j + 1 : Nat) : Int)))] <| .e))) (.e))))) Try.func12 rfl rfl rfl (by kernel_rfl) ?_
 refine tt ⟨rfl,(by omega),?_⟩
 intro i hinv
 have hi := hinv
 refine tt (cd (fun hc18 => ?_) (fun hc18 => ?_))
 · have hy := b7 hb i
   have hw : 1 ≤ (p.regs.getD i aI).w∧(p.regs.getD i aI).w ≤ 8 := aY.1 (hp.rw i (by omega)).1
   refine tt ⟨(cL b i hb),tt ⟨ix,tt ⟨⟨oK,vq rfl om om⟩,⟨sh,⟨(w6 (by have := fM (n := (p.regs.getD i aI).w.toNat) (by omega); omega) (by have := fM (n := (p.regs.getD i aI).w.toNat) (by omega); omega)),⟨⟨oK,(e7 (by omega))⟩,⟨⟨⟨rfl,oK⟩,oK⟩,⟨(bf (by omega) rfl),tt ⟨(dP b i 1 om),tt ⟨w6,tt ⟨(i + 1),rfl,(?_ : (i + 1) ≤ p.regs.length),(?_ : p.regs.length - (i + 1) < p.regs.length - i)⟩⟩⟩⟩⟩⟩⟩⟩⟩⟩⟩
   · omega
   · omega
 · have hie : i = p.regs.length := by omega
   refine tt ⟨rfl,⟨by omega,by rw [hie]; rfl⟩,?_⟩
   intro j q hinv
   obtain ⟨hj,hq⟩ := hinv
   have hqb := zc hp j (by omega)
   refine tt (cd (fun hc44 => ?_) (fun hc44 => ?_))
   · have hmw : 1 ≤ (p.mems.getD j aj).words∧(p.mems.getD j aj).words ≤ 4 := (hp.mw j (by omega)).2.1
     refine ⟨oK,tt ⟨rfl,(by omega),?_⟩⟩
     intro k hinv
     have hk := hinv
     refine tt ⟨ix,tt (cd (fun hc55 => ?_) (fun hc55 => ?_))⟩
     · have hy := b7 hb (q + k)
       have hw : 1 ≤ (p.mems.getD j aj).w∧(p.mems.getD j aj).w ≤ 8 := aY.1 (hp.mw j (by omega)).1
       refine tt ⟨(cL b (q + k) hb),tt ⟨ix,tt ⟨⟨oK,vq rfl om om⟩,⟨sh,⟨(w6 (by have := fM (n := (p.mems.getD j aj).w.toNat) (by omega); omega) (by have := fM (n := (p.mems.getD j aj).w.toNat) (by omega); omega)),⟨⟨oK,(by unfold tC; rw [← hq]; exact e7 (by omega))⟩,⟨⟨⟨rfl,oK⟩,oK⟩,⟨(bf (by omega) rfl),tt ⟨(dP b (q + k) 1 om),tt ⟨w6,tt ⟨(k + 1),rfl,(?_ : (k + 1) ≤ (p.mems.getD j aj).words.toNat),(?_ : (p.mems.getD j aj).words.toNat - (k + 1) < (p.mems.getD j aj).words.toNat - k)⟩⟩⟩⟩⟩⟩⟩⟩⟩⟩⟩
       · omega
       · omega
     · have hke : k = (p.mems.getD j aj).words.toNat := by omega
       refine tt ⟨⟨⟨rfl,oK⟩,oK⟩,⟨(bf (by omega) (by rw [hke]; rfl)),tt ⟨w6,tt ⟨(j + 1,q + k),rfl,?_,(?_ : p.mems.length - (j + 1) < p.mems.length - j)⟩⟩⟩⟩
       · exact ⟨by omega,by rw [hq,hke]; rfl⟩
       · omega
   · have hje : j = p.mems.length := by omega
     refine tt ⟨(congrArg _ (?_ : (tab (tM p b) i) = ((aM p b).regs))),(congrArg _ (?_ : (tab (wX p b) j) = ((aM p b).mems))),oK⟩
     all_goals (first | (rw [hie]; rfl) | (rw [hje]; rfl))
abbrev Ag (p : Pr) (b : List Int) : Ct := ⟨13,[(wY p),(LY b)],true,(.agg [(dL 2 cg bo (aK p b)),(LB (av p b))])⟩
abbrev ng (p : Pr) (b : List Int) : Lp (Nat) := iT [2,4,5,6,7] 5 (fun (i : Nat) => ⟨[(2,(.ptr 0 0 0 0)),(4,(.ptr 1 0 0 0)),(5,(.ptr 2 0 0 0)),(6,(.ptr 3 0 0 0)),(7,(i6 (i : Int)))],[(sG p),(.var 43 [.nils,.nils]),(.var 96 [(LY b),(i6 (i : Int))]),(.var 43 [(.own 4),.nils]),(.arr 69 2 cg bo (tab (Ac p b) i))]⟩) (fun (i : Nat) => i ≤ p.takes.length) (fun (i : Nat) => p.takes.length - i)
abbrev nh (p : Pr) (b : List Int) (i : Nat) : Lp (Nat) := iT [2,4,5,6,9] 6 (fun (m : Nat) => ⟨[(2,(.ptr 0 0 0 0)),(4,(.ptr 1 0 0 0)),(5,(.ptr 2 0 0 0)),(6,(.ptr 3 0 0 0)),(9,(i6 (m : Int)))],[(sG p),(.var 43 [.nils,.nils]),(.var 96 [(LY b),(i6 ((i + m : Nat) : Int))]),(.var 43 [(.own 4),(.own 5)]),(.arr 69 2 cg bo (tab (Ac p b) i)),(.arr 4 1 bw false (tab (AH p b) m))]⟩) (fun (m : Nat) => m ≤ p.puts.length) (fun (m : Nat) => p.puts.length - m)
theorem wZ (p : Pr) (b : List Int) (hp : dh p) (hb : lY b) : CC (Ag p b) := by
 have hl1 := hp.tl
 have hl2 := hp.pl
 refine ai.vc (V := TT 10 (GO (ng p b) 0 (∀ i,(ng p b).inv i → TT 5 (CD ((i : Int) < (p.takes.length : Int)) (TT 1 (CC (lp b i)∧TT 4 (QM (b.getD i 0) 4∧TT 2 (QD (b.getD i 0) 4∧TT 3 (IX (i : Int) p.takes.length∧TT 2 ((True∧IntKind.u64.wrap ((p.takes.getD i bp).w) = ((p.takes.getD i bp).w))∧SH ((p.takes.getD i bp).w)∧W6 ((2 ^ (((p.takes.getD i bp).w).toNat)) - 1)∧(True∧(IntKind.wrap .i64 (BitVec.ofInt (IntKind.i64).bits ((b.getD i 0) / 4) &&& BitVec.ofInt (IntKind.i64).bits ((2 ^ (((p.takes.getD i bp).w).toNat)) - 1)).toNat) = (b.getD i 0 / 4 % 2 ^ (p.takes.getD i bp).w.toNat))∧TT 1 (ay [[(dB (((b.getD i 0) % 4) != 3)),(i6 (b.getD i 0 / 4 % 2 ^ (p.takes.getD i bp).w.toNat))]] ([(⟨((b.getD i 0) % 4) != 3,b.getD i 0 / 4 % 2 ^ (p.takes.getD i bp).w.toNat⟩ : Hd)].map cg)∧((tab (Ac p b) i).length + ([(⟨((b.getD i 0) % 4) != 3,b.getD i 0 / 4 % 2 ^ (p.takes.getD i bp).w.toNat⟩ : Hd)].map cg).length ≤ 137438953472∧(tab (Ac p b) i).map cg ++ [(⟨((b.getD i 0) % 4) != 3,b.getD i 0 / 4 % 2 ^ (p.takes.getD i bp).w.toNat⟩ : Hd)].map cg = (tab (Ac p b) (i + 1)).map cg)∧TT 3 (CC (iJ b i 1)∧TT 2 (W6 ((i + 1 : Nat) : Int)∧TT 1 (AG (ng p b) i (i + 1))))))))))) (TT 1 (GO (nh p b i) 0 (∀ m,(nh p b i).inv m → TT 5 (CD ((m : Int) < (p.puts.length : Int)) (TT 3 (CC (lp b (i + m))∧QM (b.getD (i + m) 0) 4∧TT 1 (ay [[(dB (((b.getD (i + m) 0) % 4) != 3))]] ([((b.getD (i + m) 0) % 4) != 3].map bw)∧((tab (AH p b) m).length + ([((b.getD (i + m) 0) % 4) != 3].map bw).length ≤ 137438953472∧(tab (AH p b) m).map bw ++ [((b.getD (i + m) 0) % 4) != 3].map bw = (tab (AH p b) (m + 1)).map bw)∧TT 3 (CC (iJ b (i + m) 1)∧TT 2 (W6 ((m + 1 : Nat) : Int)∧TT 1 (AG (nh p b i) m (m + 1))))))) (TT 3 ((tab (Ac p b) i).map cg = (aK p b).map cg∧(tab (AH p b) m).map bw = (av p b).map bw∧True)))))))))) (.g 3 3 0 69 2 cg bo <| .l (ng p b) 0 (fun i => .b 17 (.w 6 [(1,(lp b i).O)] <| .w 7 [(3,.val (i6 ((b.getD i 0) % 4))),(6,.val (i6 ((b.getD i 0) / 4))),(13,.val (dI .u64 ((p.takes.getD i bp).w))),(14,.val (i6 (2 ^ (((p.takes.getD i bp).w).toNat)))),(15,.val (i6 ((2 ^ (((p.takes.getD i bp).w).toNat)) - 1))),(16,.val (i6 (b.getD i 0 / 4 % 2 ^ (p.takes.getD i bp).w.toNat))),(18,.box 69 2 cg bo [(⟨((b.getD i 0) % 4) != 3,b.getD i 0 / 4 % 2 ^ (p.takes.getD i bp).w.toNat⟩ : Hd)]),(19,.box 69 2 cg bo (tab (Ac p b) (i + 1)))] <| .w 8 [(1,(iJ b i 1).O)] <| .w 5 [(1,.val (i6 ((i + 1 : Nat) : Int)))] <| .e) (.g 9 3 1 4 1 bw false <| .l (nh p b i) 0 (fun m => .b 49 (.w 12 [(3,(lp b (i + m)).O),(4,.val (i6 ((b.getD (i + m) 0) % 4))),(6,.box 4 1 bw false [((b.getD (i + m) 0) % 4) != 3]),(7,.box 4 1 bw false (tab (AH p b) (m + 1)))] <| .w 13 [(1,(iJ b (i + m) 1).O)] <| .w 11 [(1,.val (i6 ((m + 1 : Nat) : Int)))] <| .e) (.e))))) Try.func13 rfl rfl rfl (by kernel_rfl) ?_
 refine tt ⟨rfl,(by omega),?_⟩
 intro i hinv
 have hi := hinv
 refine tt (cd (fun hc17 => ?_) (fun hc17 => ?_))
 · refine tt ⟨(cL b i hb),?_⟩
   have hy := b7 hb i
   have hw : 1 ≤ (p.takes.getD i bp).w∧(p.takes.getD i bp).w ≤ 8 := aY.1 (hp.tw i (by omega)).1
   refine tt ⟨qm,tt ⟨qd,tt ⟨ix,tt ⟨⟨oK,vq rfl om om⟩,⟨sh,⟨(w6 (by have := fM (n := (p.takes.getD i bp).w.toNat) (by omega); omega) (by have := fM (n := (p.takes.getD i bp).w.toNat) (by omega); omega)),⟨⟨oK,(e7 (by omega))⟩,tt ⟨⟨⟨rfl,rfl,oK⟩,oK⟩,⟨(bf (by omega) rfl),tt ⟨(dP b i 1 om),tt ⟨w6,tt ⟨(i + 1),rfl,(?_ : (i + 1) ≤ p.takes.length),(?_ : p.takes.length - (i + 1) < p.takes.length - i)⟩⟩⟩⟩⟩⟩⟩⟩⟩⟩⟩⟩
   · omega
   · omega
 · have hie : i = p.takes.length := by omega
   refine tt ⟨rfl,(by omega),?_⟩
   intro m hinv
   have hm := hinv
   refine tt (cd (fun hc49 => ?_) (fun hc49 => ?_))
   · have hy := b7 hb (i + m)
     refine tt ⟨(cL b (i + m) hb),⟨qm,tt ⟨⟨⟨rfl,oK⟩,oK⟩,⟨(bf (by omega) (by rw [hie]; rfl)),tt ⟨(dP b (i + m) 1 om),tt ⟨w6,tt ⟨(m + 1),rfl,(?_ : (m + 1) ≤ p.puts.length),(?_ : p.puts.length - (m + 1) < p.puts.length - m)⟩⟩⟩⟩⟩⟩⟩
     · omega
     · omega
   · have hme : m = p.puts.length := by omega
     refine tt ⟨(congrArg _ (?_ : (tab (Ac p b) i) = (aK p b))),(congrArg _ (?_ : (tab (AH p b) m) = (av p b))),oK⟩
     all_goals (first | (rw [hie]; rfl) | (rw [hme]; rfl))
abbrev vK (p : Pr) (s : Ps) (hs : List Hd) (rs : List Bool) : Ct := ⟨21,[(wY p),(.agg [(LI s.regs),(dL 1 aJ [] s.mems)]),(.agg [(dL 2 cg bo hs),(LB rs)])],true,(.agg [(dB ((ae p s hs rs).fires)),(LI (((ae p s hs rs).s).regs)),(dL 1 aJ [] (((ae p s hs rs).s).mems)),(LB ((ae p s hs rs).pops)),(dL 2 cg bo ((ae p s hs rs).puts))])⟩
theorem jr (p : Pr) (s : Ps) (hs : List Hd) (rs : List Bool) (hp : dh p) (hso : jh p s) (hh : jX p hs) (hrs : rs.length = p.puts.length) : CC (vK p s hs rs) := by
 refine ai.vc (V := TT 10 (CC (xR p s hs rs)∧TT 2 (((ae p s hs rs).fires) = ((ae p s hs rs).fires)∧(((ae p s hs rs).s).regs).map (ac .i64) = (((ae p s hs rs).s).regs).map (ac .i64)∧(((ae p s hs rs).s).mems).map aJ = (((ae p s hs rs).s).mems).map aJ∧((ae p s hs rs).pops).map bw = ((ae p s hs rs).pops).map bw∧((ae p s hs rs).puts).map cg = ((ae p s hs rs).puts).map cg∧True))) (.w 1 [(6,(xR p s hs rs).O)] <| .e) Try.func21 rfl rfl rfl (by kernel_rfl) ?_
 exact tt ⟨(nd p s hs rs hp hso hh hrs),tt ⟨rfl,rfl,rfl,rfl,rfl,oK⟩⟩
abbrev Cv (p : Pr) (s : Ps) (hs : List Hd) (rs : List Bool) : Ct := ⟨27,[(wY p),(.agg [(LI s.regs),(dL 1 aJ [] s.mems)]),(.agg [(dL 2 cg bo hs),(LB rs)])],true,(LI (aW p s hs))⟩
abbrev di (p : Pr) (s : Ps) (hs : List Hd) (rs : List Bool) : Lp (Nat × List Int) := Az [3,4,5,7,8] 4 (fun (i : Nat) (dl : List Int) => ⟨[(3,(.ptr 0 0 0 0)),(4,(.ptr 1 0 0 0)),(5,(.ptr 2 0 0 0)),(7,(.own 3)),(8,(i6 (i : Int)))],[(sG p),(.var 29 [(LI s.regs),(dL 1 aJ [] s.mems)]),(.var 43 [(dL 2 cg bo hs),(LB rs)]),(.arr 3 1 (ac .i64) 0 dl)]⟩) (fun (i : Nat) (dl : List Int) => i ≤ p.takes.length∧dl = dF (jg p s hs) (fW p) i) (fun (i : Nat) (dl : List Int) => p.takes.length - i)
theorem rb (p : Pr) (s : Ps) (hs : List Hd) (rs : List Bool) (hp : dh p) (hso : jh p s) (hh : jX p hs) : CC (Cv p s hs rs) := by
 have hl1 := hp.tl
 have hhl := hh.l
 have ho := dR hp hso (y7 hp)
 refine ai.vc (V := TT 7 ((((0 : Int) ≤ (p.takes.length : Int)∧(p.takes.length : Int) ≤ (p.takes.length : Int)∧(p.takes.length : Int) ≤ 137438953472)∧(fW p).length = p.takes.length∧∀ x ∈ (fW p),fk [(i6 0)] ((ac .i64) x))∧TT 2 (GO (di p s hs rs) (0,fW p) (∀ i dl,(di p s hs rs).inv (i,dl) → TT 5 (CD ((i : Int) < (p.takes.length : Int)) (CS (((hs.getD i bo).has) = true) (TT 3 (IX (i : Int) hs.length∧TT 2 ((True∧((hs.getD i bo).has) = true)∧TT 5 ((((0 : Int) ≤ (p.takes.length : Int)∧(p.takes.length : Int) ≤ (p.takes.length : Int)∧(p.takes.length : Int) ≤ 137438953472)∧(fW p).length = p.takes.length∧∀ x ∈ (fW p),fk [(i6 0)] ((ac .i64) x))∧TT 3 (IX (i : Int) p.takes.length∧TT 2 (CC (su p s (fW p) ((p.takes.getD i bp).when))∧TT 2 (CD (((bk p s (fW p) ((p.takes.getD i bp).when)).1) = 1) (TT 5 (IX (i : Int) hs.length∧TT 2 (IX (i : Int) dl.length∧(i < dl.length∧(dl.map (ac .i64)).set i (((ac .i64) (dl.getD i 0)).take 0 ++ [(.int .i64 ((hs.getD i bo).v))] ++ ((ac .i64) (dl.getD i 0)).drop (0 + 1)) = (dl.set i (hs.getD i bo).v).map (ac .i64))∧TT 1 (W6 ((i + 1 : Nat) : Int)∧TT 1 (AG (di p s hs rs) (i,dl) (i + 1,dl.set i (hs.getD i bo).v)))))) (TT 1 (W6 ((i + 1 : Nat) : Int)∧TT 1 (AG (di p s hs rs) (i,dl) (i + 1,dl))))))))))) (TT 3 (IX (i : Int) hs.length∧TT 2 ((True∧((hs.getD i bo).has) = false)∧TT 2 (W6 ((i + 1 : Nat) : Int)∧TT 1 (AG (di p s hs rs) (i,dl) (i + 1,dl))))))) (TT 3 (dl.map (ac .i64) = (aW p s hs).map (ac .i64)))))))) (.w 1 [(3,.box 3 1 (ac .i64) 0 (fW p))] <| .l (di p s hs rs) (0,fW p) (fun ⟨i,dl⟩ => .b 17 (.s 5 (((hs.getD i bo).has) = true) (.w 5 [(6,.val (dB true)),(12,.frz 3 1 (ac .i64) 0 (fW p)),(19,(su p s (fW p) ((p.takes.getD i bp).when)).O)] <| .b 41 (.w 6 [(9,.box 3 1 (ac .i64) 0 (dl.set i (hs.getD i bo).v))] <| .w 4 [(1,.val (i6 ((i + 1 : Nat) : Int)))] <| .e) (.w 4 [(1,.val (i6 ((i + 1 : Nat) : Int)))] <| .e)) (.w 5 [(6,.val (dB false))] <| .w 4 [(1,.val (i6 ((i + 1 : Nat) : Int)))] <| .e)) (.e))) Try.func27 rfl rfl rfl (by kernel_rfl) ?_
 refine tt ⟨⟨by omega,dU,fun x hx => by rw [List.eq_of_mem_replicate hx]; exact ⟨rfl,oK⟩⟩,tt ⟨rfl,⟨by omega,rfl⟩,?_⟩⟩
 intro i dl hinv
 obtain ⟨hi,hdl⟩ := hinv
 have hdll : dl.length = p.takes.length := by rw [hdl,eh (by rw [dU]; exact hi),dU]
 refine tt (cd (fun hc17 => ?_) (fun hc17 => ?_))
 · have hwh := tx hp (show i < p.takes.length by omega)
   refine ⟨fun hs0 => ?_,fun hs0 => ?_⟩
   · refine tt ⟨ix,tt ⟨(bT hs0),tt ⟨⟨by omega,dU,fun x hx => by rw [List.eq_of_mem_replicate hx]; exact ⟨rfl,oK⟩⟩,tt ⟨ix,tt ⟨(gf p s (fW p) ((p.takes.getD i bp).when) _ _ ho hwh.1 hwh.2),tt (cd (fun hc41 => ?_) (fun hc41 => ?_))⟩⟩⟩⟩⟩
     · refine tt ⟨ix,tt ⟨ix,⟨⟨by omega,by simp only [List.map_set]; rfl⟩,tt ⟨w6,tt ⟨(i + 1,dl.set i (hs.getD i bo).v),rfl,?_,(?_ : p.takes.length - (i + 1) < p.takes.length - i)⟩⟩⟩⟩⟩
       · exact ⟨by omega,by rw [hdl]; exact cm (by rw [dU]; omega) (z9 (cM (by simpa using hc41)) (by first | assumption | simp_all))⟩
       · omega
     · refine tt ⟨w6,tt ⟨(i + 1,dl),rfl,?_,(?_ : p.takes.length - (i + 1) < p.takes.length - i)⟩⟩
       · exact ⟨by omega,by rw [hdl]; exact fy (by rw [dU]; omega) (by first | exact wP (by assumption) | exact wO (by rw [fc (by simpa using hc41)]; simp))⟩
       · omega
   · refine tt ⟨ix,tt ⟨(bF hs0),tt ⟨w6,tt ⟨(i + 1,dl),rfl,?_,(?_ : p.takes.length - (i + 1) < p.takes.length - i)⟩⟩⟩⟩
     · exact ⟨by omega,by rw [hdl]; exact fy (by rw [dU]; omega) (by first | exact wP (by assumption) | exact wO (by rw [fc (by simpa using hc41)]; simp))⟩
     · omega
 · have hie : i = p.takes.length := by omega
   refine tt (congrArg _ (?_ : dl = (aW p s hs)))
   rw [hdl,hie,cQ (by rw [dU]; exact Nat.le_refl _)]; rfl
abbrev Ah (op k w : Int) (n : Nat) : Ct := ⟨59,[(i6 op),(i6 k),(i6 w)],true,(.agg [(i6 ((bn op k w).op)),(dS ((bn op k w).name)),(i6 (((bn op k w).k).n)),(dS (((bn op k w).k).p)),(i6 (((bn op k w).w).n)),(dS (((bn op k w).w).p)),(dL 7 (eA n) dE ((bn op k w).args))])⟩
theorem tG (op k w : Int) (n : Nat) : CC (Ah op k w n) := by
 refine ai.vc (V := TT 9 (op = ((bn op k w).op)∧e0 = ((bn op k w).name)∧k = (((bn op k w).k).n)∧e0 = (((bn op k w).k).p)∧w = (((bn op k w).w).n)∧e0 = (((bn op k w).w).p)∧((bn op k w).args) = []∧True)) (.e) Try.func59 rfl rfl rfl (by kernel_rfl) ?_
 refine tt ⟨?_,?_,?_,?_,?_,?_,?_,oK⟩
 all_goals (rfl)
abbrev C9 : Ct := ⟨33,[],true,(.agg [(dS bU.name),(dS bU.clock),(dL 13 bR aI bU.regs),(dL 27 dD aj bU.mems),(dL 9 bV bp bU.takes),(dL 16 bS bj bU.puts)])⟩
theorem xL  : CC C9 := by
 refine ai.vc (V := TT 1 (CC (Ah 16 0 0 1)∧TT 3 (CC (Ah 18 0 0 1)∧ay [[(i6 ((bn 16 0 0).op)),(dS ((bn 16 0 0).name)),(i6 (((bn 16 0 0).k).n)),(dS (((bn 16 0 0).k).p)),(i6 (((bn 16 0 0).w).n)),(dS (((bn 16 0 0).w).p)),(dL 7 (eA 1) dE ((bn 16 0 0).args))],[(i6 ((bn 18 0 0).op)),(dS ((bn 18 0 0).name)),(i6 (((bn 18 0 0).k).n)),(dS (((bn 18 0 0).k).p)),(i6 (((bn 18 0 0).w).n)),(dS (((bn 18 0 0).w).p)),(dL 7 (eA 1) dE ((bn 18 0 0).args))]] ([bn 16 0 0,bn 18 0 0].map (eA 2))∧TT 2 (ay [[(dS (bs [114])),(i6 2),(i6 1),(i6 6),(dS e0),(i6 0),(dS e0),(i6 0),(dS e0),(dL 7 (eA 2) dE [bn 16 0 0,bn 18 0 0]),(i6 0),(dS e0),(i6 0)]] ([(⟨bs [114],2,1,tE,uw⟩ : Rg)].map bR)∧CC (Ah 1 1 1 1)∧TT 1 (ay [[(i6 0),(i6 2),(i6 ((bn 1 1 1).op)),(dS ((bn 1 1 1).name)),(i6 (((bn 1 1 1).k).n)),(dS (((bn 1 1 1).k).p)),(i6 (((bn 1 1 1).w).n)),(dS (((bn 1 1 1).w).p)),(dL 7 (eA 1) dE ((bn 1 1 1).args))]] ([(⟨0,2,bn 1 1 1⟩ : Tk)].map bV)∧TT 1 (CC (Ah 1 3 2 1)∧ay [[(i6 ((bn 16 0 0).op)),(dS ((bn 16 0 0).name)),(i6 (((bn 16 0 0).k).n)),(dS (((bn 16 0 0).k).p)),(i6 (((bn 16 0 0).w).n)),(dS (((bn 16 0 0).w).p)),(dL 7 (eA 1) dE ((bn 16 0 0).args))],[(i6 ((bn 1 3 2).op)),(dS ((bn 1 3 2).name)),(i6 (((bn 1 3 2).k).n)),(dS (((bn 1 3 2).k).p)),(i6 (((bn 1 3 2).w).n)),(dS (((bn 1 3 2).w).p)),(dL 7 (eA 1) dE ((bn 1 3 2).args))]] ([bn 16 0 0,bn 1 3 2].map (eA 2))∧TT 3 (ay [[(i6 1),(i6 2),(i6 8),(dS e0),(i6 0),(dS e0),(i6 0),(dS e0),(dL 7 (eA 2) dE [bn 16 0 0,bn 1 3 2]),(i6 ((bn 16 0 0).op)),(dS ((bn 16 0 0).name)),(i6 (((bn 16 0 0).k).n)),(dS (((bn 16 0 0).k).p)),(i6 (((bn 16 0 0).w).n)),(dS (((bn 16 0 0).w).p)),(dL 7 (eA 1) dE ((bn 16 0 0).args))]] ([(⟨1,2,BF,bn 16 0 0⟩ : Pt)].map bS)∧TT 3 ((bs [112]) = bU.name∧(bs [99]) = bU.clock∧[(⟨bs [114],2,1,tE,uw⟩ : Rg)].map bR = bU.regs.map bR∧bU.mems = []∧[(⟨0,2,bn 1 1 1⟩ : Tk)].map bV = bU.takes.map bV∧[(⟨1,2,BF,bn 16 0 0⟩ : Pt)].map bS = bU.puts.map bS∧True)))))))) (.w 1 [(0,(Ah 16 0 0 1).O)] <| .w 2 [(1,(Ah 18 0 0 1).O),(2,.box 60 7 (eA 2) dE [bn 16 0 0,bn 18 0 0]),(5,.box 92 13 bR aI [(⟨bs [114],2,1,tE,uw⟩ : Rg)]),(6,(Ah 1 1 1 1).O),(8,.box 71 9 bV bp [(⟨0,2,bn 1 1 1⟩ : Tk)]),(10,(Ah 1 3 2 1).O),(11,.box 60 7 (eA 2) dE [bn 16 0 0,bn 1 3 2]),(15,.box 73 16 bS bj [(⟨1,2,BF,bn 16 0 0⟩ : Pt)])] <| .e) Try.func33 rfl rfl rfl (by kernel_rfl) ?_
 refine tt ⟨(tG 16 0 0 1),tt ⟨(tG 18 0 0 1),⟨⟨⟨rfl,rfl,rfl,rfl,rfl,rfl,rfl,oK⟩,⟨rfl,rfl,rfl,rfl,rfl,rfl,rfl,oK⟩,oK⟩,tt ⟨⟨⟨rfl,rfl,rfl,rfl,rfl,rfl,rfl,rfl,rfl,rfl,rfl,rfl,rfl,oK⟩,oK⟩,⟨(tG 1 1 1 1),tt ⟨⟨⟨rfl,rfl,rfl,rfl,rfl,rfl,rfl,rfl,rfl,oK⟩,oK⟩,tt ⟨(tG 1 3 2 1),⟨⟨⟨rfl,rfl,rfl,rfl,rfl,rfl,rfl,oK⟩,⟨rfl,rfl,rfl,rfl,rfl,rfl,rfl,oK⟩,oK⟩,tt ⟨⟨⟨rfl,rfl,rfl,rfl,rfl,rfl,rfl,rfl,rfl,rfl,rfl,rfl,rfl,rfl,rfl,rfl,oK⟩,oK⟩,tt ⟨?_,?_,(congrArg _ (?_ : [(⟨bs [114],2,1,tE,uw⟩ : Rg)] = bU.regs)),?_,(congrArg _ (?_ : [(⟨0,2,bn 1 1 1⟩ : Tk)] = bU.takes)),(congrArg _ (?_ : [(⟨1,2,BF,bn 16 0 0⟩ : Pt)] = bU.puts)),oK⟩⟩⟩⟩⟩⟩⟩⟩⟩⟩
 all_goals (rfl)
end Go.Proofs.Ytgfbfajaaaegjaa
