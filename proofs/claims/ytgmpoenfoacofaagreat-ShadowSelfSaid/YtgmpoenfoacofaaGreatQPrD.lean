/-
  The reference of package process.
-/
import Derived.Test.YtgmpoenfoacofaaGreatQPrA
import Derived.Test.YtgmpoenfoacofaaGreatQPrT
import Derived.Test.YtgmpoenfoacofaaGreatQVrA
namespace Go.Proofs.YtgmpoenfoacofaaGreat
open Go.RowKit
set_option linter.unusedVariables false
set_option linter.unusedSimpArgs false
abbrev nf (p : Pr) : aA := (.var 82 [(dS p.name),(dS p.clock),(dL 13 iV bH p.regs),(dL 27 p6 aI p.mems),(dL 9 jr bJ p.takes),(dL 16 gO bn p.puts)])
abbrev Cz (p : Pr) (s : Ps) (hs : List Hd) : aA := (.var 205 [(dS p.name),(dS p.clock),(dL 13 iV bH p.regs),(dL 27 p6 aI p.mems),(dL 9 jr bJ p.takes),(dL 16 gO bn p.puts),(LI s.regs),(dL 1 ac [] s.mems),(LI (bM p s hs))])
abbrev CA (p : Pr) : D := (.agg [(dS p.name),(dS p.clock),(dL 13 iV bH p.regs),(dL 27 p6 aI p.mems),(dL 9 jr bJ p.takes),(dL 16 gO bn p.puts)])
abbrev Gm (p : Pr) (s : Ps) (data : List Int) : aA := (.var 205 [(dS p.name),(dS p.clock),(dL 13 iV bH p.regs),(dL 27 p6 aI p.mems),(dL 9 jr bJ p.takes),(dL 16 gO bn p.puts),(LI s.regs),(dL 1 ac [] s.mems),(LI data)])
abbrev Gn (p : Pr) (s : Ps) (data : List Int) : D := (.agg [(dS p.name),(dS p.clock),(dL 13 iV bH p.regs),(dL 27 p6 aI p.mems),(dL 9 jr bJ p.takes),(dL 16 gO bn p.puts),(LI s.regs),(dL 1 ac [] s.mems),(LI data)])
abbrev lG (s : Ps) : List D := [(LI s.regs),(dL 1 ac [] s.mems)]
abbrev CE : aA := (.var 179 [(dB false),.nils,.nils,.nils,.nils])
abbrev jG : D := (.ptr 0 0 0 0)
set_option maxRecDepth 100000
abbrev KN (v w : Int) : Ct := ⟨68,[(i6 v),(i6 w)],false,(dB (c8 v w))⟩
theorem zx (v w : Int) (h1 : 0 ≤ w) (h2 : w ≤ 62) : CC (KN v w) := by
 refine ah.vc (V := TT 1 (CS (v ≥ 0) (TT 2 ((True∧(decide (v ≥ 0)) = true)∧TT 2 ((True∧IntKind.u64.wrap w = w)∧(0 ≤ w∧(Int.fdiv v (2 ^ min w.toNat 64)) = (v / 2 ^ w.toNat))∧TT 4 (((v / 2 ^ w.toNat) == 0) = (c8 v w)∧True)))) (TT 2 ((True∧(decide (v ≥ 0)) = false)∧TT 8 (false = (c8 v w)∧True))))) (.s 1 (v ≥ 0) (.w 1 [(2,.val (dB true)),(5,.val (dI .u64 w)),(6,.val (i6 (v / 2 ^ w.toNat)))] <| .e) (.w 1 [(2,.val (dB false))] <| .e)) Tryz.func68 rfl rfl rfl (by kernel_rfl) ?_
 refine tt ⟨fun hs0 => ?_,fun hs0 => ?_⟩
 · refine tt ⟨(vT hs0),tt ⟨⟨oK,EM rfl om om⟩,⟨⟨(by omega),(xi h1 h2)⟩,tt ⟨?_,oK⟩⟩⟩⟩
   first | exact BT (by omega) h1 h2 | (unfold c8; rw [decide_eq_false (by omega)]; rfl)
 · refine tt ⟨(vF hs0),tt ⟨?_,oK⟩⟩
   first | exact BT (by omega) h1 h2 | (unfold c8; rw [decide_eq_false (by omega)]; rfl)
abbrev Ma (p : Pr) (s : Ps) : Ct := ⟨45,[(CA p),(.agg (lG s))],false,(dB (bQ p s))⟩
abbrev my (p : Pr) (s : Ps) : Lp (Nat) := iP [2,3,5] 2 (fun (i : Nat) => ⟨[(2,jG),(3,(.ptr 1 0 0 0)),(5,(i6 (i : Int)))],[(nf p),(.var 112 (lG s))]⟩) (fun (i : Nat) => i ≤ s.regs.length∧∀ z,z < i → c8 (s.regs.getD z 0) (p.regs.getD z bH).w = true) (fun (i : Nat) => s.regs.length - i)
abbrev mz (p : Pr) (s : Ps) : Lp (Nat) := iP [2,3,6] 2 (fun (j : Nat) => ⟨[(2,jG),(3,(.ptr 1 0 0 0)),(6,(i6 (j : Int)))],[(nf p),(.var 112 (lG s))]⟩) (fun (j : Nat) => j ≤ s.mems.length∧∀ z,z < j → io p s z = true) (fun (j : Nat) => s.mems.length - j)
abbrev mA (p : Pr) (s : Ps) (j : Nat) : Lp (Nat) := iP [2,3,6,7] 15 (fun (k : Nat) => ⟨[(2,jG),(3,(.ptr 1 0 0 0)),(6,(i6 (j : Int))),(7,(i6 (k : Int)))],[(nf p),(.var 112 (lG s)),.dead,.dead,.dead,.dead,.dead,.dead,.dead,.dead,.dead,.dead,.dead,.dead,.dead]⟩) (fun (k : Nat) => k ≤ (s.mems.getD j []).length∧∀ z,z < k → c8 ((s.mems.getD j []).getD z 0) (p.mems.getD j aI).w = true) (fun (k : Nat) => (s.mems.getD j []).length - k)
theorem D4 (p : Pr) (s : Ps) (hp : fV p) : CC (Ma p s) := by
 have hl1 := hp.rl
 have hl2 := hp.ml
 refine ah.vc (V := TT 3 (CS ((s.regs.length : Int) = (p.regs.length : Int)) (TT 7 ((True∧(!decide ((s.regs.length : Int) = (p.regs.length : Int))) = false)∧TT 8 (CN ((s.mems.length : Int) = (p.mems.length : Int)) (TT 2 (false = (bQ p s)∧True)) (TT 1 (GO (my p s) 0 (∀ i,(my p s).inv i → TT 5 (CD ((i : Int) < (s.regs.length : Int)) (TT 3 (IX (i : Int) s.regs.length∧TT 4 (IX (i : Int) p.regs.length∧TT 2 (CC (KN (s.regs.getD i 0) ((p.regs.getD i bH).w))∧TT 1 (CB (!(c8 (s.regs.getD i 0) ((p.regs.getD i bH).w))) (TT 2 (false = (bQ p s)∧True)) (TT 1 (W6 ((i + 1 : Nat) : Int)∧TT 1 (AG (my p s) i (i + 1))))))))) (TT 1 (GO (mz p s) 0 (∀ j,(mz p s).inv j → TT 5 (CD ((j : Int) < (s.mems.length : Int)) (TT 3 (IX (j : Int) s.mems.length∧TT 5 (IX (j : Int) p.mems.length∧TT 3 (CN ((((s.mems.getD j []).length : Nat) : Int) = ((p.mems.getD j aI).words)) (TT 2 (false = (bQ p s)∧True)) (TT 1 (GO (mA p s j) 0 (∀ k,(mA p s j).inv k → TT 4 (IX (j : Int) s.mems.length∧TT 3 (CD ((k : Int) < (((s.mems.getD j []).length : Nat) : Int)) (TT 3 (IX (j : Int) s.mems.length∧TT 2 (IX (k : Int) ((s.mems.getD j []).length)∧TT 4 (IX (j : Int) p.mems.length∧TT 2 (CC (KN ((s.mems.getD j []).getD k 0) ((p.mems.getD j aI).w))∧TT 1 (CB (!(c8 ((s.mems.getD j []).getD k 0) ((p.mems.getD j aI).w))) (TT 2 (false = (bQ p s)∧True)) (TT 1 (W6 ((k + 1 : Nat) : Int)∧TT 1 (AG (mA p s j) k (k + 1)))))))))) (TT 1 (W6 ((j + 1 : Nat) : Int)∧TT 1 (AG (mz p s) j (j + 1))))))))))))) (TT 2 (true = (bQ p s)∧True))))))))))))) (TT 7 ((True∧(!decide ((s.regs.length : Int) = (p.regs.length : Int))) = true)∧TT 10 (false = (bQ p s)∧True))))) (.s 1 ((s.regs.length : Int) = (p.regs.length : Int)) (.w 1 [(7,.val (dB false))] <| .b 23 (.e) (.l (my p s) 0 (fun i => .b 28 (.w 6 [(11,(KN (s.regs.getD i 0) ((p.regs.getD i bH).w)).O)] <| .b 43 (.e) (.w 5 [(1,.val (i6 ((i + 1 : Nat) : Int)))] <| .e)) (.l (mz p s) 0 (fun j => .b 48 (.b 63 (.e) (.l (mA p s j) 0 (fun k => .b 71 (.w 16 [(14,(KN ((s.mems.getD j []).getD k 0) ((p.mems.getD j aI).w)).O)] <| .b 89 (.e) (.w 15 [(1,.val (i6 ((k + 1 : Nat) : Int)))] <| .e)) (.w 10 [(1,.val (i6 ((j + 1 : Nat) : Int)))] <| .e)))) (.e)))))) (.w 1 [(7,.val (dB true))] <| .e)) Tryz.func45 rfl rfl rfl (by kernel_rfl) ?_
 refine tt ⟨fun hs0 => ?_,fun hs0 => ?_⟩
 · refine tt ⟨(nF hs0),tt (cn (fun hc23 => ?_) (fun hc23 => ?_))⟩
   · refine tt ⟨?_,oK⟩
     first | exact (gS (by omega)).symm | exact (gT (by omega)).symm | exact (gU (i := i) (by omega) (by simpa using hc43)).symm | exact (cT (i := j) (by omega) (ma (by omega))).symm | exact (cT (i := j) (by omega) (mb (j := k) (by omega) (by simpa using hc89))).symm | exact (gV (by omega) (by omega) (fun z hz => h3 z (by omega)) (fun z hz => h4 z (by omega))).symm
   · refine tt ⟨rfl,⟨by omega,fun z hz => by omega⟩,?_⟩
     intro i hinv
     obtain ⟨hi,h3⟩ := hinv
     refine tt (cd (fun hc28 => ?_) (fun hc28 => ?_))
     · have hrw := aP.1 (show am (p.regs.getD i bH).w = true from (hp.rw i (by omega)).1)
       refine tt ⟨ix,tt ⟨ix,tt ⟨(zx (s.regs.getD i 0) ((p.regs.getD i bH).w) om om),tt ⟨fun hc43 => ?_,fun hc43 => ?_⟩⟩⟩⟩
       · refine tt ⟨?_,oK⟩
         first | exact (gS (by omega)).symm | exact (gT (by omega)).symm | exact (gU (i := i) (by omega) (by simpa using hc43)).symm | exact (cT (i := j) (by omega) (ma (by omega))).symm | exact (cT (i := j) (by omega) (mb (j := k) (by omega) (by simpa using hc89))).symm | exact (gV (by omega) (by omega) (fun z hz => h3 z (by omega)) (fun z hz => h4 z (by omega))).symm
       · refine tt ⟨w6,tt ⟨(i + 1),rfl,?_,(?_ : s.regs.length - (i + 1) < s.regs.length - i)⟩⟩
         · exact ⟨by omega,cK h3 (by simpa using hc43)⟩
         · omega
     · refine tt ⟨rfl,⟨by omega,fun z hz => by omega⟩,?_⟩
       intro j hinv
       obtain ⟨hj,h4⟩ := hinv
       refine tt (cd (fun hc48 => ?_) (fun hc48 => ?_))
       · refine tt ⟨ix,tt ⟨ix,tt (cn (fun hc63 => ?_) (fun hc63 => ?_))⟩⟩
         · refine tt ⟨?_,oK⟩
           first | exact (gS (by omega)).symm | exact (gT (by omega)).symm | exact (gU (i := i) (by omega) (by simpa using hc43)).symm | exact (cT (i := j) (by omega) (ma (by omega))).symm | exact (cT (i := j) (by omega) (mb (j := k) (by omega) (by simpa using hc89))).symm | exact (gV (by omega) (by omega) (fun z hz => h3 z (by omega)) (fun z hz => h4 z (by omega))).symm
         · have hmw : 1 ≤ (p.mems.getD j aI).words∧(p.mems.getD j aI).words ≤ 4 := (hp.mw j (by omega)).2.1
           refine tt ⟨rfl,⟨by omega,fun z hz => by omega⟩,?_⟩
           intro k hinv
           obtain ⟨hk,h5⟩ := hinv
           refine tt ⟨ix,tt (cd (fun hc71 => ?_) (fun hc71 => ?_))⟩
           · have hmww := aP.1 (show am (p.mems.getD j aI).w = true from (hp.mw j (by omega)).1)
             refine tt ⟨ix,tt ⟨ix,tt ⟨ix,tt ⟨(zx ((s.mems.getD j []).getD k 0) ((p.mems.getD j aI).w) om om),tt ⟨fun hc89 => ?_,fun hc89 => ?_⟩⟩⟩⟩⟩
             · refine tt ⟨?_,oK⟩
               first | exact (gS (by omega)).symm | exact (gT (by omega)).symm | exact (gU (i := i) (by omega) (by simpa using hc43)).symm | exact (cT (i := j) (by omega) (ma (by omega))).symm | exact (cT (i := j) (by omega) (mb (j := k) (by omega) (by simpa using hc89))).symm | exact (gV (by omega) (by omega) (fun z hz => h3 z (by omega)) (fun z hz => h4 z (by omega))).symm
             · refine tt ⟨w6,tt ⟨(k + 1),rfl,?_,(?_ : (s.mems.getD j []).length - (k + 1) < (s.mems.getD j []).length - k)⟩⟩
               · exact ⟨by omega,cK h5 (by simpa using hc89)⟩
               · omega
           · refine tt ⟨w6,tt ⟨(j + 1),rfl,?_,(?_ : s.mems.length - (j + 1) < s.mems.length - j)⟩⟩
             · exact ⟨by omega,cK h4 (Hn (by omega) (fun z hz => h5 z (by omega)))⟩
             · omega
       · refine tt ⟨?_,oK⟩
         first | exact (gS (by omega)).symm | exact (gT (by omega)).symm | exact (gU (i := i) (by omega) (by simpa using hc43)).symm | exact (cT (i := j) (by omega) (ma (by omega))).symm | exact (cT (i := j) (by omega) (mb (j := k) (by omega) (by simpa using hc89))).symm | exact (gV (by omega) (by omega) (fun z hz => h3 z (by omega)) (fun z hz => h4 z (by omega))).symm
 · refine tt ⟨(nT hs0),tt ⟨?_,oK⟩⟩
   first | exact (gS (by omega)).symm | exact (gT (by omega)).symm | exact (gU (i := i) (by omega) (by simpa using hc43)).symm | exact (cT (i := j) (by omega) (ma (by omega))).symm | exact (cT (i := j) (by omega) (mb (j := k) (by omega) (by simpa using hc89))).symm | exact (gV (by omega) (by omega) (fun z hz => h3 z (by omega)) (fun z hz => h4 z (by omega))).symm
abbrev Mb (p : Pr) : Ct := ⟨73,[(CA p)],true,(.agg [(LI ((aR p).regs)),(dL 1 ac [] ((aR p).mems))])⟩
abbrev mB (p : Pr) : Lp (Nat) := iP [1,2,3,4] 4 (fun (i : Nat) => ⟨[(1,jG),(2,(.ptr 1 0 0 0)),(3,(.ptr 2 0 0 0)),(4,(i6 (i : Int)))],[(nf p),(.var 112 [.nils,.nils]),(.var 112 [(.own 3),.nils]),(.arr 3 1 (ae .i64) 0 (tab (fun z => (p.regs.getD z bH).init) i))]⟩) (fun (i : Nat) => i ≤ p.regs.length) (fun (i : Nat) => p.regs.length - i)
abbrev mC (p : Pr) (i : Nat) : Lp (Nat) := iP [1,2,3,5] 5 (fun (j : Nat) => ⟨[(1,jG),(2,(.ptr 1 0 0 0)),(3,(.ptr 2 0 0 0)),(5,(i6 (j : Int)))],[(nf p),(.var 112 [.nils,.nils]),(.var 112 [(.own 3),(.own 4)]),(.arr 3 1 (ae .i64) 0 (tab (fun z => (p.regs.getD z bH).init) i)),(.arr 28 1 ac [] (tab (fun z => List.replicate (p.mems.getD z aI).words.toNat (0 : Int)) j))]⟩) (fun (j : Nat) => j ≤ p.mems.length) (fun (j : Nat) => p.mems.length - j)
theorem D5 (p : Pr) (hp : fV p) : CC (Mb p) := by
 have hl1 := hp.rl
 have hl2 := hp.ml
 refine ah.vc (V := TT 6 (GO (mB p) 0 (∀ i,(mB p).inv i → TT 5 (CD ((i : Int) < (p.regs.length : Int)) (TT 5 (IX (i : Int) p.regs.length∧TT 2 (an [[(i6 ((p.regs.getD i bH).init))]] ([(p.regs.getD i bH).init].map (ae .i64))∧((tab (fun z => (p.regs.getD z bH).init) i).length + ([(p.regs.getD i bH).init].map (ae .i64)).length ≤ 137438953472∧(tab (fun z => (p.regs.getD z bH).init) i).map (ae .i64) ++ [(p.regs.getD i bH).init].map (ae .i64) = (tab (fun z => (p.regs.getD z bH).init) (i + 1)).map (ae .i64))∧TT 3 (W6 ((i + 1 : Nat) : Int)∧TT 1 (AG (mB p) i (i + 1)))))) (TT 1 (GO (mC p i) 0 (∀ j,(mC p i).inv j → TT 5 (CD ((j : Int) < (p.mems.length : Int)) (TT 5 (IX (j : Int) p.mems.length∧TT 2 ((((0 : Int) ≤ (p.mems.getD j aI).words∧(p.mems.getD j aI).words ≤ (p.mems.getD j aI).words∧(p.mems.getD j aI).words ≤ 137438953472)∧(List.replicate (p.mems.getD j aI).words.toNat (0 : Int)).length = ((p.mems.getD j aI).words).toNat∧∀ x ∈ (List.replicate (p.mems.getD j aI).words.toNat (0 : Int)),cO [(i6 0)] ((ae .i64) x))∧an [[(LI (List.replicate (p.mems.getD j aI).words.toNat (0 : Int)))]] ([List.replicate (p.mems.getD j aI).words.toNat (0 : Int)].map ac)∧((tab (fun z => List.replicate (p.mems.getD z aI).words.toNat (0 : Int)) j).length + ([List.replicate (p.mems.getD j aI).words.toNat (0 : Int)].map ac).length ≤ 137438953472∧(tab (fun z => List.replicate (p.mems.getD z aI).words.toNat (0 : Int)) j).map ac ++ [List.replicate (p.mems.getD j aI).words.toNat (0 : Int)].map ac = (tab (fun z => List.replicate (p.mems.getD z aI).words.toNat (0 : Int)) (j + 1)).map ac)∧TT 3 (W6 ((j + 1 : Nat) : Int)∧TT 1 (AG (mC p i) j (j + 1)))))) (TT 3 ((tab (fun z => (p.regs.getD z bH).init) i).map (ae .i64) = ((aR p).regs).map (ae .i64)∧(tab (fun z => List.replicate (p.mems.getD z aI).words.toNat (0 : Int)) j).map ac = ((aR p).mems).map ac∧True)))))))))) (.g 2 2 0 3 1 (ae .i64) 0 <| .l (mB p) 0 (fun i => .b 11 (.w 5 [(8,.box 3 1 (ae .i64) 0 [(p.regs.getD i bH).init]),(9,.box 3 1 (ae .i64) 0 (tab (fun z => (p.regs.getD z bH).init) (i + 1)))] <| .w 4 [(1,.val (i6 ((i + 1 : Nat) : Int)))] <| .e) (.g 6 2 1 28 1 ac [] <| .l (mC p i) 0 (fun j => .b 29 (.w 9 [(8,.frz 3 1 (ae .i64) 0 (List.replicate (p.mems.getD j aI).words.toNat (0 : Int))),(9,.box 28 1 ac [] [List.replicate (p.mems.getD j aI).words.toNat (0 : Int)]),(10,.box 28 1 ac [] (tab (fun z => List.replicate (p.mems.getD z aI).words.toNat (0 : Int)) (j + 1)))] <| .w 8 [(1,.val (i6 ((j + 1 : Nat) : Int)))] <| .e) (.e))))) Tryz.func73 rfl rfl rfl (by kernel_rfl) ?_
 refine tt ⟨rfl,(by omega),?_⟩
 intro i hinv
 have hi := hinv
 refine tt (cd (fun hc11 => ?_) (fun hc11 => ?_))
 · refine tt ⟨ix,tt ⟨⟨⟨rfl,oK⟩,oK⟩,⟨(gH (f := fun z => (p.regs.getD z bH).init) (by omega)),tt ⟨w6,tt ⟨(i + 1),rfl,(?_ : (i + 1) ≤ p.regs.length),(?_ : p.regs.length - (i + 1) < p.regs.length - i)⟩⟩⟩⟩⟩
   · omega
   · omega
 · refine tt ⟨rfl,(by omega),?_⟩
   intro j hinv
   have hj := hinv
   refine tt (cd (fun hc29 => ?_) (fun hc29 => ?_))
   · have hmw : 1 ≤ (p.mems.getD j aI).words∧(p.mems.getD j aI).words ≤ 4 := (hp.mw j (by omega)).2.1
     refine tt ⟨ix,tt ⟨⟨by omega,List.length_replicate,fun x hx => by rw [List.eq_of_mem_replicate hx]; exact ⟨rfl,oK⟩⟩,⟨⟨⟨rfl,oK⟩,oK⟩,⟨(gH (f := fun z => List.replicate (p.mems.getD z aI).words.toNat (0 : Int)) (by omega)),tt ⟨w6,tt ⟨(j + 1),rfl,(?_ : (j + 1) ≤ p.mems.length),(?_ : p.mems.length - (j + 1) < p.mems.length - j)⟩⟩⟩⟩⟩⟩
     · omega
     · omega
   · refine tt ⟨(congrArg _ (?_ : (tab (fun z => (p.regs.getD z bH).init) i) = ((aR p).regs))),(congrArg _ (?_ : (tab (fun z => List.replicate (p.mems.getD z aI).words.toNat (0 : Int)) j) = ((aR p).mems))),oK⟩
     · rw [pm,show i = p.regs.length by omega]
     · rw [pm,show j = p.mems.length by omega]
abbrev lH (p : Pr) (s : Ps) (data : List Int) (n : Nat) (e : Ex) : Ct := ⟨107,[(Gn p s data),(.agg [(i6 e.op),(dS e.name),(i6 e.k.n),(dS e.k.p),(i6 e.w.n),(dS e.w.p),(dL 7 (eA n) dE e.args)])],false,(.agg [(i6 ((a5 p s data e).1)),(i6 ((a5 p s data e).2))])⟩
abbrev sJ (p : Pr) (s : Ps) (data : List Int) (n : Nat) (e : Ex) : Lp (Nat) := iP [2,3,4,7,8,9] 5 (fun (i : Nat) => ⟨[(2,jG),(3,(.ptr 1 0 0 0)),(4,(.ptr 2 0 0 0)),(7,(.own 3)),(8,(.own 4)),(9,(i6 (i : Int)))],[(Gm p s data),(.var 74 [(i6 e.op),(dS e.name),(i6 e.k.n),(dS e.k.p),(i6 e.w.n),(dS e.w.p),(dL 7 (eA (n + 1)) dE e.args)]),(.var 210 [(i6 0),(i6 0)]),(.arr 3 1 (ae .i64) 0 (eD p s data (e.args.take i))),(.arr 3 1 (ae .i64) 0 (c6 p s data (e.args.take i)))]⟩) (fun (i : Nat) => i ≤ e.args.length) (fun (i : Nat) => e.args.length - i)
theorem CF (p : Pr) (s : Ps) (data : List Int) (n : Nat) (e : Ex) (c : Sc) (v : Int) (ho : qF c p s data) (ht : eJ c e = some v) (hmw : ∀ i,i < p.mems.length → ((s.mems.getD i []).length : Int) = (p.mems.getD i aI).words) (ih : ∀ a ∈ e.args,CC (lH p s data n a)) : CC (lH p s data (n + 1) e) := by
 have hal := Fl ht
 refine ah.vc (V := TT 7 (CD (e.op = 16) (TT 6 (IX e.k.n s.regs.length∧TT 7 (IX e.k.n p.regs.length∧TT 5 ((((s.regs.getD e.k.n.toNat 0) = ((a5 p s data e).1)∧((p.regs.getD e.k.n.toNat bH).w) = ((a5 p s data e).2)∧True))∧((True∧True∧True)))))) (TT 2 (CD (e.op = 17) (TT 6 (IX e.k.n p.mems.length∧TT 6 (IX 0 e.args.length∧TT 1 (CC (lH p s data n (e.args.getD 0 dE))∧TT 8 (IX e.k.n s.mems.length∧TT 5 ((((p.mems.getD e.k.n.toNat aI).words) ≠ 0∧(Int.tmod ((a5 p s data (e.args.getD 0 dE)).1) ((p.mems.getD e.k.n.toNat aI).words)) = (Int.tmod (a5 p s data (e.args.getD 0 dE)).1 ((s.mems.getD e.k.n.toNat []).length : Int)))∧IX (Int.tmod (a5 p s data (e.args.getD 0 dE)).1 ((s.mems.getD e.k.n.toNat []).length : Int)) ((s.mems.getD e.k.n.toNat []).length)∧TT 6 (((((s.mems.getD e.k.n.toNat []).getD ((Int.tmod (a5 p s data (e.args.getD 0 dE)).1 ((s.mems.getD e.k.n.toNat []).length : Int)).toNat) 0) = ((a5 p s data e).1)∧((p.mems.getD e.k.n.toNat aI).w) = ((a5 p s data e).2)∧True))∧((True∧True∧True))))))))) (TT 2 (CD (e.op = 18) (TT 5 (IX e.k.n data.length∧TT 7 (IX e.k.n p.takes.length∧TT 5 ((((data.getD e.k.n.toNat 0) = ((a5 p s data e).1)∧((p.takes.getD e.k.n.toNat bJ).w) = ((a5 p s data e).2)∧True))∧((True∧True∧True)))))) (an [] ((eD p s data (e.args.take 0)).map (ae .i64))∧an [] ((c6 p s data (e.args.take 0)).map (ae .i64))∧TT 3 (GO (sJ p s data n e) 0 (∀ i,(sJ p s data n e).inv i → TT 5 (CD ((i : Int) < (e.args.length : Int)) (TT 4 (IX (i : Int) e.args.length∧TT 1 (CC (lH p s data n (e.args.getD i dE))∧TT 5 (an [[(i6 ((a5 p s data (e.args.getD i dE)).1))]] ([(a5 p s data (e.args.getD i dE)).1].map (ae .i64))∧((eD p s data (e.args.take i)).length + ([(a5 p s data (e.args.getD i dE)).1].map (ae .i64)).length ≤ 137438953472∧(eD p s data (e.args.take i)).map (ae .i64) ++ [(a5 p s data (e.args.getD i dE)).1].map (ae .i64) = (eD p s data (e.args.take (i + 1))).map (ae .i64))∧TT 4 (an [[(i6 ((a5 p s data (e.args.getD i dE)).2))]] ([(a5 p s data (e.args.getD i dE)).2].map (ae .i64))∧((c6 p s data (e.args.take i)).length + ([(a5 p s data (e.args.getD i dE)).2].map (ae .i64)).length ≤ 137438953472∧(c6 p s data (e.args.take i)).map (ae .i64) ++ [(a5 p s data (e.args.getD i dE)).2].map (ae .i64) = (c6 p s data (e.args.take (i + 1))).map (ae .i64))∧TT 2 (W6 ((i + 1 : Nat) : Int)∧TT 1 (AG (sJ p s data n e) i (i + 1)))))))) (TT 10 (CK (Gk e.op (c6 p s data (e.args.take i)) e.k.n e.w.n)∧TT 12 (an [[(i6 e.k.n)],[(i6 e.w.n)]] ([e.k.n,e.w.n].map (ae .i64))∧TT 1 (CK (JB e.op (c6 p s data (e.args.take i)) (eD p s data (e.args.take i)) [e.k.n,e.w.n])∧TT 9 ((((cA e.op (c6 p s data (e.args.take i)) (eD p s data (e.args.take i)) [e.k.n,e.w.n]) = ((a5 p s data e).1)∧(bP e.op (c6 p s data (e.args.take i)) e.k.n e.w.n) = ((a5 p s data e).2)∧True))∧((True∧True∧True))))))))))))))))) (.b 15 (.e) (.b 35 (.w 6 [(5,(lH p s data n (e.args.getD 0 dE)).O)] <| .w 7 [(12,.val (i6 (Int.tmod (a5 p s data (e.args.getD 0 dE)).1 ((s.mems.getD e.k.n.toNat []).length : Int))))] <| .e) (.b 69 (.e) (.w 10 [(0,.box 3 1 (ae .i64) 0 (eD p s data (e.args.take 0))),(1,.box 3 1 (ae .i64) 0 (c6 p s data (e.args.take 0)))] <| .l (sJ p s data n e) 0 (fun i => .b 94 (.w 14 [(6,(lH p s data n (e.args.getD i dE)).O)] <| .w 15 [(3,.box 3 1 (ae .i64) 0 [(a5 p s data (e.args.getD i dE)).1]),(4,.box 3 1 (ae .i64) 0 (eD p s data (e.args.take (i + 1))))] <| .w 16 [(3,.box 3 1 (ae .i64) 0 [(a5 p s data (e.args.getD i dE)).2]),(4,.box 3 1 (ae .i64) 0 (c6 p s data (e.args.take (i + 1))))] <| .w 13 [(1,.val (i6 ((i + 1 : Nat) : Int)))] <| .e) (.w 17 [(10,(Gk e.op (c6 p s data (e.args.take i)) e.k.n e.w.n).O')] <| .w 18 [(10,.box 3 1 (ae .i64) 0 [e.k.n,e.w.n]),(12,(JB e.op (c6 p s data (e.args.take i)) (eD p s data (e.args.take i)) [e.k.n,e.w.n]).O')] <| .e)))))) Tryz.func107 rfl rfl rfl (by kernel_rfl) ?_
 refine tt (cd (fun hc15 => ?_) (fun hc15 => ?_))
 · obtain ⟨h1,h2,h3⟩ := Fm ho ht hc15
   refine tt ⟨ix,tt ⟨ix,tt ⟨⟨?_,?_,oK⟩,⟨oK,oK,oK⟩⟩⟩⟩
   all_goals (first | exact (eC hc15).1.symm | exact (eC hc15).2.symm | exact (dc hc69).1.symm | exact (dc hc69).2.symm | exact (de hc35 hlen).1.symm | exact (de hc35 hlen).2.symm | (rw [hie,List.take_length]; exact (gr hc15 hc69 hc35).1.symm) | (rw [hie,List.take_length]; exact (gr hc15 hc69 hc35).2.symm))
 · refine tt (cd (fun hc35 => ?_) (fun hc35 => ?_))
   · obtain ⟨h1,h2,h3,hlen,h4,h5,h6⟩ := BK ho ht hc35
     have hpw : (p.mems.getD e.k.n.toNat aI).words = ((s.mems.getD e.k.n.toNat []).length : Int) := (hmw _ (by omega)).symm
     have hz : (s.mems.getD e.k.n.toNat []).length ≠ 0 := by omega
     refine tt ⟨ix,tt ⟨ix,tt ⟨(ih _ (gP (by omega))),tt ⟨ix,tt ⟨⟨(by omega),(by rw [hpw])⟩,⟨ix,tt ⟨⟨?_,?_,oK⟩,⟨oK,oK,oK⟩⟩⟩⟩⟩⟩⟩⟩
     all_goals (first | exact (eC hc15).1.symm | exact (eC hc15).2.symm | exact (dc hc69).1.symm | exact (dc hc69).2.symm | exact (de hc35 hlen).1.symm | exact (de hc35 hlen).2.symm | (rw [hie,List.take_length]; exact (gr hc15 hc69 hc35).1.symm) | (rw [hie,List.take_length]; exact (gr hc15 hc69 hc35).2.symm))
   · refine tt (cd (fun hc69 => ?_) (fun hc69 => ?_))
     · obtain ⟨h1,h2,h3⟩ := BJ ho ht hc69
       refine tt ⟨ix,tt ⟨ix,tt ⟨⟨?_,?_,oK⟩,⟨oK,oK,oK⟩⟩⟩⟩
       all_goals (first | exact (eC hc15).1.symm | exact (eC hc15).2.symm | exact (dc hc69).1.symm | exact (dc hc69).2.symm | exact (de hc35 hlen).1.symm | exact (de hc35 hlen).2.symm | (rw [hie,List.take_length]; exact (gr hc15 hc69 hc35).1.symm) | (rw [hie,List.take_length]; exact (gr hc15 hc69 hc35).2.symm))
     · refine ⟨oK,⟨oK,tt ⟨rfl,(by omega),?_⟩⟩⟩
       intro i hinv
       have hi := hinv
       refine tt (cd (fun hc94 => ?_) (fun hc94 => ?_))
       · refine tt ⟨ix,tt ⟨(ih _ (gP (by omega))),tt ⟨⟨⟨rfl,oK⟩,oK⟩,⟨⟨by simp only [List.length_map,List.length_cons,List.length_nil]; rw [tR,List.length_take]; omega,by rw [v8 (by omega),List.map_append]⟩,tt ⟨⟨⟨rfl,oK⟩,oK⟩,⟨⟨by simp only [List.length_map,List.length_cons,List.length_nil]; rw [pg,List.length_take]; omega,by rw [v9 (by omega),List.map_append]⟩,tt ⟨w6,tt ⟨(i + 1),rfl,(?_ : (i + 1) ≤ e.args.length),(?_ : e.args.length - (i + 1) < e.args.length - i)⟩⟩⟩⟩⟩⟩⟩⟩
         · omega
         · omega
       · have hie : i = e.args.length := by omega
         have hev := FD ho ht hc15 hc35 hc69
         have hev1 : fT e.op (c6 p s data (e.args.take i)) e.k.n e.w.n = true := by rw [hie,List.take_length]; exact hev.1
         have hev2 : yV (c6 p s data (e.args.take i)) (eD p s data (e.args.take i)) = true := by rw [hie,List.take_length]; exact hev.2
         refine tt ⟨⟨cZ _ rfl,(uE e.op (c6 p s data (e.args.take i)) e.k.n e.w.n hev1)⟩,tt ⟨⟨⟨rfl,oK⟩,⟨rfl,oK⟩,oK⟩,tt ⟨⟨cZ _ rfl,(A3 e.op (c6 p s data (e.args.take i)) (eD p s data (e.args.take i)) [e.k.n,e.w.n] hev1 (by rw [tR,pg]) hev2 rfl)⟩,tt ⟨⟨?_,?_,oK⟩,⟨oK,oK,oK⟩⟩⟩⟩⟩
         all_goals (first | exact (eC hc15).1.symm | exact (eC hc15).2.symm | exact (dc hc69).1.symm | exact (dc hc69).2.symm | exact (de hc35 hlen).1.symm | exact (de hc35 hlen).2.symm | (rw [hie,List.take_length]; exact (gr hc15 hc69 hc35).1.symm) | (rw [hie,List.take_length]; exact (gr hc15 hc69 hc35).2.symm))
theorem jH {c : Sc} {p : Pr} {s : Ps} {data : List Int} (ho : qF c p s data) (hmw : ∀ i,i < p.mems.length → ((s.mems.getD i []).length : Int) = (p.mems.getD i aI).words) : ∀ (n : Nat) (e : Ex) (v : Int),eJ c e = some v → fk e ≤ n + 1 → CC (lH p s data n e)
  | 0,e,v,ht,hd => by
    have ha : e.args = [] := by
      cases hl : e.args with
      | nil => rfl
      | cons a r =>
        have := su (e := e) (a := a) (by rw [hl]; simp)
        cases a with | mk op name k w args => rw [fk] at this; omega
    have h := CF p s data 0 e c v ho ht hmw (fun a h => by rw [ha] at h; cases h)
    refine ah.recast ?_ h
    refine ⟨tK _ rfl,⟨rfl,rfl,rfl,rfl,rfl,rfl,?_,oK⟩,oK⟩
    show e.args.map (eA 0) = e.args.map (eA 1)
    rw [ha]; rfl
  | n + 1,e,v,ht,hd => CF p s data n e c v ho ht hmw (fun a h => by
    obtain ⟨w,hw⟩ := Fk ht h
    exact jH ho hmw n a w hw (by have := su h; omega))
abbrev oe (p : Pr) (s : Ps) (data : List Int) (e : Ex) : Ct := ⟨105,[(Gn p s data),(.agg [(i6 e.op),(dS e.name),(i6 e.k.n),(dS e.k.p),(i6 e.w.n),(dS e.w.p),(dL 7 (eA 2) dE e.args)])],false,(dB (dQ p s data e))⟩
theorem uF (p : Pr) (s : Ps) (data : List Int) (e : Ex) {c : Sc} {v : Int} (ho : qF c p s data) (hmw : ∀ i,i < p.mems.length → ((s.mems.getD i []).length : Int) = (p.mems.getD i aI).words) (ht : eJ c e = some v) (hd : fk e ≤ 3) : CC (oe p s data e) := by
 refine ah.vc (V := TT 5 (CC (lH p s data 2 e)∧TT 4 ((((a5 p s data e).1) == 1) = (dQ p s data e)∧True))) (.w 1 [(2,(lH p s data 2 e).O)] <| .e) Tryz.func105 rfl rfl rfl (by kernel_rfl) ?_
 refine tt ⟨(jH ho hmw 2 e _ ht hd),tt ⟨?_,oK⟩⟩
 rfl
abbrev JC (p : Pr) (s : Ps) (hs : List Hd) (rs : List Bool) : Ct := ⟨104,[(CA p),(.agg (lG s)),(.agg [(dL 2 bO aU hs),(LB rs)])],true,(.agg [(dS p.name),(dS p.clock),(dL 13 iV bH p.regs),(dL 27 p6 aI p.mems),(dL 9 jr bJ p.takes),(dL 16 gO bn p.puts),(LI s.regs),(dL 1 ac [] s.mems),(LI (bM p s hs))])⟩
abbrev fF (p : Pr) (s : Ps) (hs : List Hd) (rs : List Bool) : Lp (Nat × List Int) := vX [3,5,6,7,8,9] 20 (fun (i : Nat) (dat : List Int) => ⟨[(3,jG),(5,(.ptr 2 0 0 0)),(6,(.ptr 3 0 0 0)),(7,(.ptr 11 0 0 0)),(8,(.ptr 19 0 0 0)),(9,(i6 (i : Int)))],[(nf p),(.var 112 (lG s)),(.var 196 [(dL 2 bO aU hs),(LB rs)]),(.var 205 [(dS e0),(dS e0),.nils,.nils,.nils,.nils,.nils,.nils,.nils]),.dead,.dead,.dead,.dead,.dead,.dead,.dead,(.var 205 [(dS p.name),(dS p.clock),(dL 13 iV bH p.regs),(dL 27 p6 aI p.mems),(dL 9 jr bJ p.takes),(dL 16 gO bn p.puts),(LI s.regs),(dL 1 ac [] s.mems),(LI (im p))]),.dead,.dead,.dead,.dead,.dead,(.arr 3 1 (ae .i64) 0 dat),.dead,(.var 205 [(dS p.name),(dS p.clock),(dL 13 iV bH p.regs),(dL 27 p6 aI p.mems),(dL 9 jr bJ p.takes),(dL 16 gO bn p.puts),(LI s.regs),(dL 1 ac [] s.mems),(.own 17)])]⟩) (fun (i : Nat) (dat : List Int) => i ≤ p.takes.length∧dat = cN (kP p s hs) (im p) i) (fun (i : Nat) (dat : List Int) => p.takes.length - i)
theorem A4 (p : Pr) (s : Ps) (hs : List Hd) (rs : List Bool) (hp : fV p) (hso : nG p s) (hh : y7 p hs) : CC (JC p s hs rs) := by
 have ht1 := hp.tl
 have ht2 := hp.pl
 have hhl := hh.l
 have hmw := hso.mn
 have ho := fW hp hso (It hp)
 refine ah.vc (V := TT 9 ((((0 : Int) ≤ (p.takes.length : Int)∧(p.takes.length : Int) ≤ (p.takes.length : Int)∧(p.takes.length : Int) ≤ 137438953472)∧(im p).length = p.takes.length∧∀ x ∈ (im p),cO [(i6 0)] ((ae .i64) x))∧TT 8 ((((0 : Int) ≤ (p.takes.length : Int)∧(p.takes.length : Int) ≤ (p.takes.length : Int)∧(p.takes.length : Int) ≤ 137438953472)∧(im p).length = p.takes.length∧∀ x ∈ (im p),cO [(i6 0)] ((ae .i64) x))∧TT 4 (GO (fF p s hs rs) (0,im p) (∀ i dat,(fF p s hs rs).inv (i,dat) → TT 5 (CD ((i : Int) < (p.takes.length : Int)) (CS ((dQ p s (im p) ((p.takes.getD i bJ).when)) = true) (TT 4 (IX (i : Int) p.takes.length∧TT 2 (CC (oe p s (im p) ((p.takes.getD i bJ).when))∧(True∧(dQ p s (im p) ((p.takes.getD i bJ).when)) = true)∧TT 3 (IX (i : Int) hs.length∧TT 3 (CB ((hs.getD i aU).has) (TT 6 (IX (i : Int) hs.length∧TT 2 (IX (i : Int) dat.length∧(i < dat.length∧(dat.map (ae .i64)).set i (((ae .i64) (dat.getD i 0)).take 0 ++ [(.int .i64 ((hs.getD i aU).v))] ++ ((ae .i64) (dat.getD i 0)).drop (0 + 1)) = (dat.set i ((hs.getD i aU).v)).map (ae .i64))∧TT 1 (W6 ((i + 1 : Nat) : Int)∧TT 1 (AG (fF p s hs rs) (i,dat) (i + 1,dat.set i ((hs.getD i aU).v))))))) (TT 1 (W6 ((i + 1 : Nat) : Int)∧TT 1 (AG (fF p s hs rs) (i,dat) (i + 1,dat))))))))) (TT 4 (IX (i : Int) p.takes.length∧TT 2 (CC (oe p s (im p) ((p.takes.getD i bJ).when))∧(True∧(dQ p s (im p) ((p.takes.getD i bJ).when)) = false)∧TT 2 (W6 ((i + 1 : Nat) : Int)∧TT 1 (AG (fF p s hs rs) (i,dat) (i + 1,dat))))))) (TT 3 (p.name = p.name∧p.clock = p.clock∧p.regs.map iV = p.regs.map iV∧p.mems.map p6 = p.mems.map p6∧p.takes.map jr = p.takes.map jr∧p.puts.map gO = p.puts.map gO∧s.regs.map (ae .i64) = s.regs.map (ae .i64)∧s.mems.map ac = s.mems.map ac∧dat.map (ae .i64) = (bM p s hs).map (ae .i64)∧True)))))))) (.w 1 [(5,.frz 3 1 (ae .i64) 0 (im p))] <| .w 2 [(5,.box 3 1 (ae .i64) 0 (im p))] <| .l (fF p s hs rs) (0,im p) (fun ⟨i,dat⟩ => .b 28 (.s 6 ((dQ p s (im p) ((p.takes.getD i bJ).when)) = true) (.w 6 [(7,(oe p s (im p) ((p.takes.getD i bJ).when)).O),(8,.val (dB true))] <| .b 46 (.w 7 [(10,.box 3 1 (ae .i64) 0 (dat.set i ((hs.getD i aU).v)))] <| .w 5 [(1,.val (i6 ((i + 1 : Nat) : Int)))] <| .e) (.w 5 [(1,.val (i6 ((i + 1 : Nat) : Int)))] <| .e)) (.w 6 [(7,(oe p s (im p) ((p.takes.getD i bJ).when)).O),(8,.val (dB false))] <| .w 5 [(1,.val (i6 ((i + 1 : Nat) : Int)))] <| .e)) (.e))) Tryz.func104 rfl rfl rfl (by kernel_rfl) ?_
 refine tt ⟨⟨by omega,ee,fun x hx => by rw [List.eq_of_mem_replicate hx]; exact ⟨rfl,oK⟩⟩,tt ⟨⟨by omega,ee,fun x hx => by rw [List.eq_of_mem_replicate hx]; exact ⟨rfl,oK⟩⟩,tt ⟨rfl,⟨by omega,rfl⟩,?_⟩⟩⟩
 intro i dat hinv
 obtain ⟨hi,hdat⟩ := hinv
 have hdl : dat.length = p.takes.length := by rw [hdat,ec (by rw [ee]; exact hi),ee]
 refine tt (cd (fun hc28 => ?_) (fun hc28 => ?_))
 · have hwh := sw hp (show i < p.takes.length by omega)
   refine ⟨fun hs0 => ?_,fun hs0 => ?_⟩
   · refine tt ⟨ix,tt ⟨(uF p s (im p) ((p.takes.getD i bJ).when) ho hmw hwh.1 hwh.2),⟨(bT hs0),tt ⟨ix,tt ⟨fun hc46 => ?_,fun hc46 => ?_⟩⟩⟩⟩⟩
     · refine tt ⟨ix,tt ⟨ix,⟨⟨om,by simp only [List.map_set]; rfl⟩,tt ⟨w6,tt ⟨(i + 1,dat.set i ((hs.getD i aU).v)),rfl,?_,(?_ : p.takes.length - (i + 1) < p.takes.length - i)⟩⟩⟩⟩⟩
       · exact ⟨by omega,by rw [hdat]; exact b6 (by rw [ee]; omega) (Ho hs0 hc46)⟩
       · omega
     · refine tt ⟨w6,tt ⟨(i + 1,dat),rfl,?_,(?_ : p.takes.length - (i + 1) < p.takes.length - i)⟩⟩
       · exact ⟨by omega,by rw [hdat]; exact b9 (by rw [ee]; omega) (by first | exact BU (by assumption) | exact BV (by rw [hc46]; simp))⟩
       · omega
   · refine tt ⟨ix,tt ⟨(uF p s (im p) ((p.takes.getD i bJ).when) ho hmw hwh.1 hwh.2),⟨(bF hs0),tt ⟨w6,tt ⟨(i + 1,dat),rfl,?_,(?_ : p.takes.length - (i + 1) < p.takes.length - i)⟩⟩⟩⟩⟩
     · exact ⟨by omega,by rw [hdat]; exact b9 (by rw [ee]; omega) (by first | exact BU (by assumption) | exact BV (by rw [hc46]; simp))⟩
     · omega
 · refine tt ⟨rfl,rfl,rfl,rfl,rfl,rfl,rfl,rfl,(congrArg _ (?_ : dat = (bM p s hs))),oK⟩
   rw [hdat,show i = p.takes.length by omega,dn (by rw [ee]; exact Nat.le_refl _)]; rfl
abbrev JD (p : Pr) (s : Ps) (data : List Int) : Ct := ⟨106,[(Gn p s data)],true,(.agg [(LI ((cj p s data).regs)),(dL 1 ac [] ((cj p s data).mems))])⟩
abbrev pP (p : Pr) (s : Ps) (data : List Int) : Lp (Nat) := iP [1,2,3,4] 4 (fun (i : Nat) => ⟨[(1,jG),(2,(.ptr 1 0 0 0)),(3,(.ptr 2 0 0 0)),(4,(i6 (i : Int)))],[(Gm p s data),(.var 112 [.nils,.nils]),(.var 112 [(.own 3),.nils]),(.arr 3 1 (ae .i64) 0 (tab (fun z => (a5 p s data (p.regs.getD z bH).next).1) i))]⟩) (fun (i : Nat) => i ≤ p.regs.length) (fun (i : Nat) => p.regs.length - i)
abbrev lI (p : Pr) (s : Ps) (data : List Int) (i : Nat) : Lp (Nat) := iP [1,2,3,5] 5 (fun (j : Nat) => ⟨[(1,jG),(2,(.ptr 1 0 0 0)),(3,(.ptr 2 0 0 0)),(5,(i6 (j : Int)))],[(Gm p s data),(.var 112 [.nils,.nils]),(.var 112 [(.own 3),(.own 4)]),(.arr 3 1 (ae .i64) 0 (tab (fun z => (a5 p s data (p.regs.getD z bH).next).1) i)),(.arr 28 1 ac [] (tab (p7 p s data) j))]⟩) (fun (j : Nat) => j ≤ p.mems.length) (fun (j : Nat) => p.mems.length - j)
theorem Gp (p : Pr) (s : Ps) (data : List Int) (hp : fV p) (hso : nG p s) (hda : y6 p data) : CC (JD p s data) := by
 have hl1 := hp.rl
 have hl2 := hp.ml
 have hmw := hso.mn
 have ho := fW hp hso hda
 have hsl := hso.ml
 refine ah.vc (V := TT 6 (GO (pP p s data) 0 (∀ i,(pP p s data).inv i → TT 6 (CD ((i : Int) < (p.regs.length : Int)) (TT 7 (IX (i : Int) p.regs.length∧TT 2 (CC (lH p s data 2 ((p.regs.getD i bH).next))∧TT 1 (an [[(i6 ((a5 p s data ((p.regs.getD i bH).next)).1))]] ([(a5 p s data ((p.regs.getD i bH).next)).1].map (ae .i64))∧((tab (fun z => (a5 p s data (p.regs.getD z bH).next).1) i).length + ([(a5 p s data ((p.regs.getD i bH).next)).1].map (ae .i64)).length ≤ 137438953472∧(tab (fun z => (a5 p s data (p.regs.getD z bH).next).1) i).map (ae .i64) ++ [(a5 p s data ((p.regs.getD i bH).next)).1].map (ae .i64) = (tab (fun z => (a5 p s data (p.regs.getD z bH).next).1) (i + 1)).map (ae .i64))∧TT 3 (W6 ((i + 1 : Nat) : Int)∧TT 1 (AG (pP p s data) i (i + 1))))))) (TT 1 (GO (lI p s data i) 0 (∀ j,(lI p s data i).inv j → TT 6 (CD ((j : Int) < (p.mems.length : Int)) (TT 4 (IX (j : Int) p.mems.length∧TT 3 (an [] (([] : List Int).map (ae .i64))∧TT 4 (IX (j : Int) s.mems.length∧TT 1 ((([] : List Int).length + ((s.mems.getD j []).map (ae .i64)).length ≤ 137438953472∧([] : List Int).map (ae .i64) ++ (s.mems.getD j []).map (ae .i64) = (s.mems.getD j []).map (ae .i64))∧TT 4 (CC (oe p s data ((p.mems.getD j aI).enable))∧CB (dQ p s data ((p.mems.getD j aI).enable)) (TT 4 (CC (lH p s data 2 ((p.mems.getD j aI).addr))∧TT 3 (((p.mems.getD j aI).words) ≠ 0∧TT 3 (CC (lH p s data 2 ((p.mems.getD j aI).data))∧TT 1 (IX (Int.tmod ((a5 p s data ((p.mems.getD j aI).addr)).1) ((p.mems.getD j aI).words)) ((s.mems.getD j []).length)∧((Int.tmod ((a5 p s data ((p.mems.getD j aI).addr)).1) ((p.mems.getD j aI).words)).toNat < (s.mems.getD j []).length∧((s.mems.getD j []).map (ae .i64)).set ((Int.tmod ((a5 p s data ((p.mems.getD j aI).addr)).1) ((p.mems.getD j aI).words)).toNat) (((ae .i64) ((s.mems.getD j []).getD ((Int.tmod ((a5 p s data ((p.mems.getD j aI).addr)).1) ((p.mems.getD j aI).words)).toNat) 0)).take 0 ++ [(.int .i64 ((a5 p s data ((p.mems.getD j aI).data)).1))] ++ ((ae .i64) ((s.mems.getD j []).getD ((Int.tmod ((a5 p s data ((p.mems.getD j aI).addr)).1) ((p.mems.getD j aI).words)).toNat) 0)).drop (0 + 1)) = ((s.mems.getD j []).set ((Int.tmod ((a5 p s data ((p.mems.getD j aI).addr)).1) ((p.mems.getD j aI).words)).toNat) ((a5 p s data ((p.mems.getD j aI).data)).1)).map (ae .i64))∧TT 3 (an [[(LI ((s.mems.getD j []).set ((Int.tmod ((a5 p s data ((p.mems.getD j aI).addr)).1) ((p.mems.getD j aI).words)).toNat) ((a5 p s data ((p.mems.getD j aI).data)).1)))]] ([(s.mems.getD j []).set ((Int.tmod ((a5 p s data ((p.mems.getD j aI).addr)).1) ((p.mems.getD j aI).words)).toNat) ((a5 p s data ((p.mems.getD j aI).data)).1)].map ac)∧((tab (p7 p s data) j).length + ([(s.mems.getD j []).set ((Int.tmod ((a5 p s data ((p.mems.getD j aI).addr)).1) ((p.mems.getD j aI).words)).toNat) ((a5 p s data ((p.mems.getD j aI).data)).1)].map ac).length ≤ 137438953472∧(tab (p7 p s data) j).map ac ++ [(s.mems.getD j []).set ((Int.tmod ((a5 p s data ((p.mems.getD j aI).addr)).1) ((p.mems.getD j aI).words)).toNat) ((a5 p s data ((p.mems.getD j aI).data)).1)].map ac = (tab (p7 p s data) (j + 1)).map ac)∧TT 3 (W6 ((j + 1 : Nat) : Int)∧TT 1 (AG (lI p s data i) j (j + 1))))))))) (TT 3 (an [[(LI (s.mems.getD j []))]] ([s.mems.getD j []].map ac)∧((tab (p7 p s data) j).length + ([s.mems.getD j []].map ac).length ≤ 137438953472∧(tab (p7 p s data) j).map ac ++ [s.mems.getD j []].map ac = (tab (p7 p s data) (j + 1)).map ac)∧TT 3 (W6 ((j + 1 : Nat) : Int)∧TT 1 (AG (lI p s data i) j (j + 1))))))))))) (TT 3 ((tab (fun z => (a5 p s data (p.regs.getD z bH).next).1) i).map (ae .i64) = ((cj p s data).regs).map (ae .i64)∧(tab (p7 p s data) j).map ac = ((cj p s data).mems).map ac∧True)))))))))) (.g 2 2 0 3 1 (ae .i64) 0 <| .l (pP p s data) 0 (fun i => .b 14 (.w 5 [(10,(lH p s data 2 ((p.regs.getD i bH).next)).O),(12,.box 3 1 (ae .i64) 0 [(a5 p s data ((p.regs.getD i bH).next)).1]),(13,.box 3 1 (ae .i64) 0 (tab (fun z => (a5 p s data (p.regs.getD z bH).next).1) (i + 1)))] <| .w 4 [(1,.val (i6 ((i + 1 : Nat) : Int)))] <| .e) (.g 6 2 1 28 1 ac [] <| .l (lI p s data i) 0 (fun j => .b 37 (.w 10 [(0,.box 3 1 (ae .i64) 0 ([] : List Int)),(7,.box 3 1 (ae .i64) 0 (s.mems.getD j []))] <| .w 11 [(3,(oe p s data ((p.mems.getD j aI).enable)).O)] <| .b 57 (.w 12 [(4,(lH p s data 2 ((p.mems.getD j aI).addr)).O),(12,(lH p s data 2 ((p.mems.getD j aI).data)).O),(15,.box 3 1 (ae .i64) 0 ((s.mems.getD j []).set ((Int.tmod ((a5 p s data ((p.mems.getD j aI).addr)).1) ((p.mems.getD j aI).words)).toNat) ((a5 p s data ((p.mems.getD j aI).data)).1)))] <| .f 13 6 <| .w 13 [(3,.box 28 1 ac [] [(s.mems.getD j []).set ((Int.tmod ((a5 p s data ((p.mems.getD j aI).addr)).1) ((p.mems.getD j aI).words)).toNat) ((a5 p s data ((p.mems.getD j aI).data)).1)]),(4,.box 28 1 ac [] (tab (p7 p s data) (j + 1)))] <| .w 8 [(1,.val (i6 ((j + 1 : Nat) : Int)))] <| .e) (.f 13 6 <| .w 13 [(3,.box 28 1 ac [] [s.mems.getD j []]),(4,.box 28 1 ac [] (tab (p7 p s data) (j + 1)))] <| .w 8 [(1,.val (i6 ((j + 1 : Nat) : Int)))] <| .e)) (.e))))) Tryz.func106 rfl rfl rfl (by kernel_rfl) ?_
 refine tt ⟨rfl,(by omega),?_⟩
 intro i hinv
 have hi := hinv
 refine tt (cd (fun hc14 => ?_) (fun hc14 => ?_))
 · have hrn := hp.rw i (by omega)
   refine tt ⟨ix,tt ⟨(jH ho hmw 2 ((p.regs.getD i bH).next) _ hrn.2.2.1 hrn.2.2.2),tt ⟨⟨⟨rfl,oK⟩,oK⟩,⟨(gH (f := fun z => (a5 p s data (p.regs.getD z bH).next).1) (by omega)),tt ⟨w6,tt ⟨(i + 1),rfl,(?_ : (i + 1) ≤ p.regs.length),(?_ : p.regs.length - (i + 1) < p.regs.length - i)⟩⟩⟩⟩⟩⟩
   · omega
   · omega
 · refine tt ⟨rfl,(by omega),?_⟩
   intro j hinv
   have hj := hinv
   refine tt (cd (fun hc37 => ?_) (fun hc37 => ?_))
   · have hmz : 1 ≤ (p.mems.getD j aI).words∧(p.mems.getD j aI).words ≤ 4 := (hp.mw j (by omega)).2.1
     have hml : ((s.mems.getD j []).length : Int) = (p.mems.getD j aI).words := hso.mn j (by omega)
     have hme := (hp.mw j (by omega)).2.2.1
     have hmb := (hp.mw j (by omega)).2.2.2
     obtain ⟨va,hma⟩ := hmb.1.1
     have had : 0 ≤ Int.tmod (a5 p s data (p.mems.getD j aI).addr).1 (p.mems.getD j aI).words∧Int.tmod (a5 p s data (p.mems.getD j aI).addr).1 (p.mems.getD j aI).words < (s.mems.getD j []).length∧(p.mems.getD j aI).words ≠ 0 := BX hp hso hda (show j < p.mems.length by omega)
     refine tt ⟨ix,tt ⟨oK,tt ⟨ix,tt ⟨⟨by simp only [List.length_map,List.length_nil]; omega,by simp⟩,tt ⟨(uF p s data ((p.mems.getD j aI).enable) ho hmw hme.1 hme.2),⟨fun hc57 => ?_,fun hc57 => ?_⟩⟩⟩⟩⟩⟩
     · refine tt ⟨(jH ho hmw 2 ((p.mems.getD j aI).addr) _ hma hmb.1.2),tt ⟨om,tt ⟨(jH ho hmw 2 ((p.mems.getD j aI).data) _ hmb.2.1 hmb.2.2),tt ⟨ix,⟨⟨om,by simp only [List.map_set]; rfl⟩,tt ⟨⟨⟨rfl,oK⟩,oK⟩,⟨(bp (by omega) (by first | exact xx hc57 | exact BW (by rw [hc57]; simp))),tt ⟨w6,tt ⟨(j + 1),rfl,(?_ : (j + 1) ≤ p.mems.length),(?_ : p.mems.length - (j + 1) < p.mems.length - j)⟩⟩⟩⟩⟩⟩⟩⟩⟩
       · omega
       · omega
     · refine tt ⟨⟨⟨rfl,oK⟩,oK⟩,⟨(bp (by omega) (by first | exact xx hc57 | exact BW (by rw [hc57]; simp))),tt ⟨w6,tt ⟨(j + 1),rfl,(?_ : (j + 1) ≤ p.mems.length),(?_ : p.mems.length - (j + 1) < p.mems.length - j)⟩⟩⟩⟩
       · omega
       · omega
   · refine tt ⟨(congrArg _ (?_ : (tab (fun z => (a5 p s data (p.regs.getD z bH).next).1) i) = ((cj p s data).regs))),(congrArg _ (?_ : (tab (p7 p s data) j) = ((cj p s data).mems))),oK⟩
     · rw [show i = p.regs.length by omega]; rfl
     · rw [show j = p.mems.length by omega]; rfl
abbrev Mc (p : Pr) (s : Ps) (hs : List Hd) (rs : List Bool) : Ct := ⟨95,[(CA p),(.agg (lG s)),(.agg [(dL 2 bO aU hs),(LB rs)])],true,(.agg [(dB ((aK p s hs rs).fires)),(LI (((aK p s hs rs).s).regs)),(dL 1 ac [] (((aK p s hs rs).s).mems)),(LB ((aK p s hs rs).pops)),(dL 2 bO aU ((aK p s hs rs).puts))])⟩
abbrev gY (p : Pr) (s : Ps) (hs : List Hd) (rs : List Bool) : Lp (Nat × Bool) := vX [3,5,6,7,8,9] 16 (fun (i : Nat) (fir : Bool) => ⟨[(3,jG),(5,(.ptr 2 0 0 0)),(6,(.ptr 3 0 0 0)),(7,(.ptr 4 0 0 0)),(8,(.ptr 15 0 0 0)),(9,(i6 (i : Int)))],[(nf p),(.var 112 (lG s)),(.var 196 [(dL 2 bO aU hs),(LB rs)]),CE,(Cz p s hs),.dead,.dead,.dead,.dead,(.arr 4 1 aQ false (List.replicate p.takes.length false)),.dead,.dead,.dead,(.arr 182 2 bO aU (List.replicate p.puts.length aU)),.dead,(.var 179 [(dB fir),(LI s.regs),(dL 1 ac [] s.mems),(.own 9),(.own 13)])]⟩) (fun (i : Nat) (fir : Bool) => i ≤ p.takes.length∧fir = cB (gG p s hs) i) (fun (i : Nat) (fir : Bool) => p.takes.length - i)
abbrev gZ (p : Pr) (s : Ps) (hs : List Hd) (rs : List Bool) (fir : Bool) : Lp (Nat × Bool) := vX [3,5,6,7,8,10] 16 (fun (m : Nat) (fi2 : Bool) => ⟨[(3,jG),(5,(.ptr 2 0 0 0)),(6,(.ptr 3 0 0 0)),(7,(.ptr 4 0 0 0)),(8,(.ptr 15 0 0 0)),(10,(i6 (m : Int)))],[(nf p),(.var 112 (lG s)),(.var 196 [(dL 2 bO aU hs),(LB rs)]),CE,(Cz p s hs),.dead,.dead,.dead,.dead,(.arr 4 1 aQ false (List.replicate p.takes.length false)),.dead,.dead,.dead,(.arr 182 2 bO aU (List.replicate p.puts.length aU)),.dead,(.var 179 [(dB fi2),(LI s.regs),(dL 1 ac [] s.mems),(.own 9),(.own 13)])]⟩) (fun (m : Nat) (fi2 : Bool) => m ≤ p.puts.length∧fi2 = (fir && cB (js p s hs rs) m)) (fun (m : Nat) (fi2 : Bool) => p.puts.length - m)
abbrev mD (p : Pr) (s : Ps) (hs : List Hd) (rs : List Bool) (fi2 : Bool) : Lp (Nat × List Bool) := vX [3,6,7,8,11] 16 (fun (q : Nat) (pop : List Bool) => ⟨[(3,jG),(6,(.ptr 3 0 0 0)),(7,(.ptr 4 0 0 0)),(8,(.ptr 15 0 0 0)),(11,(i6 (q : Int)))],[(nf p),(.var 112 (lG s)),(.var 196 [(dL 2 bO aU hs),(LB rs)]),CE,(Cz p s hs),.dead,.dead,.dead,.dead,(.arr 4 1 aQ false pop),.dead,.dead,.dead,(.arr 182 2 bO aU (List.replicate p.puts.length aU)),.dead,(.var 179 [(dB fi2),(LI ((cj p s (bM p s hs)).regs)),(dL 1 ac [] ((cj p s (bM p s hs)).mems)),(.own 9),(.own 13)])]⟩) (fun (q : Nat) (pop : List Bool) => q ≤ p.takes.length∧pop = cN (ll p s hs) (List.replicate p.takes.length false) q) (fun (q : Nat) (pop : List Bool) => p.takes.length - q)
abbrev jI (p : Pr) (s : Ps) (hs : List Hd) (rs : List Bool) (fi2 : Bool) (pop : List Bool) : Lp (Nat × List Hd) := vX [3,6,7,8,12] 16 (fun (t : Nat) (put : List Hd) => ⟨[(3,jG),(6,(.ptr 3 0 0 0)),(7,(.ptr 4 0 0 0)),(8,(.ptr 15 0 0 0)),(12,(i6 (t : Int)))],[(nf p),(.var 112 (lG s)),(.var 196 [(dL 2 bO aU hs),(LB rs)]),CE,(Cz p s hs),.dead,.dead,.dead,.dead,(.arr 4 1 aQ false pop),.dead,.dead,.dead,(.arr 182 2 bO aU put),.dead,(.var 179 [(dB fi2),(LI ((cj p s (bM p s hs)).regs)),(dL 1 ac [] ((cj p s (bM p s hs)).mems)),(.own 9),(.own 13)])]⟩) (fun (t : Nat) (put : List Hd) => t ≤ p.puts.length∧put = cN (lm p s hs) (List.replicate p.puts.length aU) t) (fun (t : Nat) (put : List Hd) => p.puts.length - t)
theorem D6 (p : Pr) (s : Ps) (hs : List Hd) (rs : List Bool) (hp : fV p) (hso : nG p s) (hh : y7 p hs) (hrs : rs.length = p.puts.length) : CC (Mc p s hs rs) := by
 have ht1 := hp.tl
 have ht2 := hp.pl
 have hhl := hh.l
 have hmw := hso.mn
 have ho := fW hp hso (tW (s := s) (hs := hs) hp hh)
 have hda := tW (s := s) (hs := hs) hp hh
 refine ah.vc (V := TT 7 (CC (JC p s hs rs)∧TT 6 ((((0 : Int) ≤ (p.takes.length : Int)∧(p.takes.length : Int) ≤ (p.takes.length : Int)∧(p.takes.length : Int) ≤ 137438953472)∧(List.replicate p.takes.length false).length = p.takes.length∧∀ x ∈ (List.replicate p.takes.length false),cO [(dB false)] (aQ x))∧TT 3 ((((0 : Int) ≤ (p.puts.length : Int)∧(p.puts.length : Int) ≤ (p.puts.length : Int)∧(p.puts.length : Int) ≤ 137438953472)∧(List.replicate p.puts.length aU).length = p.puts.length∧∀ x ∈ (List.replicate p.puts.length aU),cO [(dB false),(i6 0)] (bO x))∧TT 4 (GO (gY p s hs rs) (0,true) (∀ i fir,(gY p s hs rs).inv (i,fir) → TT 5 (CD ((i : Int) < (p.takes.length : Int)) (CS (fir = true) (CS (((hs.getD i aU).has) = true) (TT 2 ((True∧fir = true)∧TT 3 (IX (i : Int) hs.length∧TT 2 ((True∧((hs.getD i aU).has) = true)∧TT 5 (W6 ((i + 1 : Nat) : Int)∧TT 1 (AG (gY p s hs rs) (i,fir) (i + 1,true))))))) (TT 2 ((True∧fir = true)∧TT 3 (IX (i : Int) hs.length∧TT 2 ((True∧((hs.getD i aU).has) = false)∧TT 4 (IX (i : Int) p.takes.length∧TT 2 (CC (oe p s (bM p s hs) ((p.takes.getD i bJ).when))∧TT 6 (W6 ((i + 1 : Nat) : Int)∧TT 1 (AG (gY p s hs rs) (i,fir) (i + 1,!(dQ p s (bM p s hs) ((p.takes.getD i bJ).when)))))))))))) (TT 2 ((True∧fir = false)∧TT 4 (W6 ((i + 1 : Nat) : Int)∧TT 1 (AG (gY p s hs rs) (i,fir) (i + 1,false)))))) (TT 1 (GO (gZ p s hs rs fir) (0,fir) (∀ m fi2,(gZ p s hs rs fir).inv (m,fi2) → TT 5 (CD ((m : Int) < (p.puts.length : Int)) (CS (fi2 = true) (CS ((rs.getD m false) = true) (TT 2 ((True∧fi2 = true)∧TT 3 (IX (m : Int) rs.length∧TT 1 ((True∧(rs.getD m false) = true)∧TT 5 (W6 ((m + 1 : Nat) : Int)∧TT 1 (AG (gZ p s hs rs fir) (m,fi2) (m + 1,true))))))) (TT 2 ((True∧fi2 = true)∧TT 3 (IX (m : Int) rs.length∧TT 1 ((True∧(rs.getD m false) = false)∧TT 4 (IX (m : Int) p.puts.length∧TT 2 (CC (oe p s (bM p s hs) ((p.puts.getD m bn).when))∧TT 6 (W6 ((m + 1 : Nat) : Int)∧TT 1 (AG (gZ p s hs rs fir) (m,fi2) (m + 1,!(dQ p s (bM p s hs) ((p.puts.getD m bn).when)))))))))))) (TT 2 ((True∧fi2 = false)∧TT 4 (W6 ((m + 1 : Nat) : Int)∧TT 1 (AG (gZ p s hs rs fir) (m,fi2) (m + 1,false)))))) (TT 3 (CB (!fi2) (TT 3 (fi2 = ((aK p s hs rs).fires)∧s.regs.map (ae .i64) = (((aK p s hs rs).s).regs).map (ae .i64)∧s.mems.map ac = (((aK p s hs rs).s).mems).map ac∧(List.replicate p.takes.length false).map aQ = ((aK p s hs rs).pops).map aQ∧(List.replicate p.puts.length aU).map bO = ((aK p s hs rs).puts).map bO∧True)) (TT 1 (CC (JD p s (bM p s hs))∧TT 3 (GO (mD p s hs rs fi2) (0,List.replicate p.takes.length false) (∀ q pop,(mD p s hs rs fi2).inv (q,pop) → TT 5 (CD ((q : Int) < (p.takes.length : Int)) (TT 7 (IX (q : Int) p.takes.length∧TT 2 (CC (oe p s (bM p s hs) ((p.takes.getD q bJ).when))∧IX (q : Int) pop.length∧(q < pop.length∧(pop.map aQ).set q ((aQ (pop.getD q false)).take 0 ++ [(.bool (dQ p s (bM p s hs) ((p.takes.getD q bJ).when)))] ++ (aQ (pop.getD q false)).drop (0 + 1)) = (pop.set q (dQ p s (bM p s hs) ((p.takes.getD q bJ).when))).map aQ)∧TT 1 (W6 ((q + 1 : Nat) : Int)∧TT 1 (AG (mD p s hs rs fi2) (q,pop) (q + 1,pop.set q (dQ p s (bM p s hs) ((p.takes.getD q bJ).when)))))))) (TT 1 (GO (jI p s hs rs fi2 pop) (0,List.replicate p.puts.length aU) (∀ t put,(jI p s hs rs fi2 pop).inv (t,put) → TT 5 (CD ((t : Int) < (p.puts.length : Int)) (TT 4 (IX (t : Int) p.puts.length∧TT 2 (CC (oe p s (bM p s hs) ((p.puts.getD t bn).when))∧CB (dQ p s (bM p s hs) ((p.puts.getD t bn).when)) (TT 7 (IX (t : Int) p.puts.length∧TT 2 (CC (lH p s (bM p s hs) 2 ((p.puts.getD t bn).data))∧TT 2 (IX (t : Int) put.length∧(t < put.length∧(put.map bO).set t ((bO (put.getD t aU)).take 0 ++ [(.bool true),(.int .i64 ((a5 p s (bM p s hs) ((p.puts.getD t bn).data)).1))] ++ (bO (put.getD t aU)).drop (0 + 2)) = (put.set t (⟨true,(a5 p s (bM p s hs) ((p.puts.getD t bn).data)).1⟩ : Hd)).map bO)∧TT 1 (W6 ((t + 1 : Nat) : Int)∧TT 1 (AG (jI p s hs rs fi2 pop) (t,put) (t + 1,put.set t (⟨true,(a5 p s (bM p s hs) ((p.puts.getD t bn).data)).1⟩ : Hd)))))))) (TT 1 (W6 ((t + 1 : Nat) : Int)∧TT 1 (AG (jI p s hs rs fi2 pop) (t,put) (t + 1,put))))))) (TT 3 (fi2 = ((aK p s hs rs).fires)∧((cj p s (bM p s hs)).regs).map (ae .i64) = (((aK p s hs rs).s).regs).map (ae .i64)∧((cj p s (bM p s hs)).mems).map ac = (((aK p s hs rs).s).mems).map ac∧pop.map aQ = ((aK p s hs rs).pops).map aQ∧put.map bO = ((aK p s hs rs).puts).map bO∧True)))))))))))))))))))))))) (.w 1 [(3,(JC p s hs rs).O)] <| .w 2 [(4,.box 4 1 aQ false (List.replicate p.takes.length false)),(8,.box 182 2 bO aU (List.replicate p.puts.length aU))] <| .l (gY p s hs rs) (0,true) (fun ⟨i,fir⟩ => .b 31 (.s 6 (fir = true) (.s 6 (((hs.getD i aU).has) = true) (.w 6 [(2,.val (dB true)),(9,.val (dB true))] <| .w 5 [(1,.val (i6 ((i + 1 : Nat) : Int)))] <| .e) (.w 6 [(2,.val (dB true)),(9,.val (dB false)),(17,(oe p s (bM p s hs) ((p.takes.getD i bJ).when)).O)] <| .w 5 [(1,.val (i6 ((i + 1 : Nat) : Int)))] <| .e)) (.w 6 [(2,.val (dB false))] <| .w 5 [(1,.val (i6 ((i + 1 : Nat) : Int)))] <| .e)) (.l (gZ p s hs rs fir) (0,fir) (fun ⟨m,fi2⟩ => .b 60 (.s 10 (fi2 = true) (.s 10 ((rs.getD m false) = true) (.w 10 [(2,.val (dB true)),(8,.val (dB true))] <| .w 9 [(1,.val (i6 ((m + 1 : Nat) : Int)))] <| .e) (.w 10 [(2,.val (dB true)),(8,.val (dB false)),(16,(oe p s (bM p s hs) ((p.puts.getD m bn).when)).O)] <| .w 9 [(1,.val (i6 ((m + 1 : Nat) : Int)))] <| .e)) (.w 10 [(2,.val (dB false))] <| .w 9 [(1,.val (i6 ((m + 1 : Nat) : Int)))] <| .e)) (.b 86 (.e) (.w 13 [(1,(JD p s (bM p s hs)).O)] <| .l (mD p s hs rs fi2) (0,List.replicate p.takes.length false) (fun ⟨q,pop⟩ => .b 95 (.w 17 [(10,(oe p s (bM p s hs) ((p.takes.getD q bJ).when)).O),(12,.box 4 1 aQ false (pop.set q (dQ p s (bM p s hs) ((p.takes.getD q bJ).when))))] <| .w 16 [(1,.val (i6 ((q + 1 : Nat) : Int)))] <| .e) (.l (jI p s hs rs fi2 pop) (0,List.replicate p.puts.length aU) (fun ⟨t,put⟩ => .b 114 (.w 21 [(7,(oe p s (bM p s hs) ((p.puts.getD t bn).when)).O)] <| .b 124 (.w 22 [(10,(lH p s (bM p s hs) 2 ((p.puts.getD t bn).data)).O),(14,.box 182 2 bO aU (put.set t (⟨true,(a5 p s (bM p s hs) ((p.puts.getD t bn).data)).1⟩ : Hd)))] <| .w 20 [(1,.val (i6 ((t + 1 : Nat) : Int)))] <| .e) (.w 20 [(1,.val (i6 ((t + 1 : Nat) : Int)))] <| .e)) (.e)))))))))) Tryz.func95 rfl rfl rfl (by kernel_rfl) ?_
 refine tt ⟨(A4 p s hs rs hp hso hh),tt ⟨⟨by omega,List.length_replicate,fun x hx => by rw [List.eq_of_mem_replicate hx]; exact ⟨rfl,oK⟩⟩,tt ⟨⟨by omega,List.length_replicate,fun x hx => by rw [List.eq_of_mem_replicate hx]; exact ⟨rfl,rfl,oK⟩⟩,tt ⟨rfl,⟨by omega,rfl⟩,?_⟩⟩⟩⟩
 intro i fir hinv
 obtain ⟨hi,hfir⟩ := hinv
 refine tt (cd (fun hc31 => ?_) (fun hc31 => ?_))
 · have hwh := sw hp (show i < p.takes.length by omega)
   refine ⟨fun hs0 => ?_,fun hs0 => ?_⟩
   · refine ⟨fun hs1 => ?_,fun hs1 => ?_⟩
     · refine tt ⟨(bT hs0),tt ⟨ix,tt ⟨(bT hs1),tt ⟨w6,tt ⟨(i + 1,true),rfl,?_,(?_ : p.takes.length - (i + 1) < p.takes.length - i)⟩⟩⟩⟩⟩
       · exact ⟨by omega,lq hfir _ (by unfold gG; clear hfir; cases fir <;> simp_all)⟩
       · omega
     · refine tt ⟨(bT hs0),tt ⟨ix,tt ⟨(bF hs1),tt ⟨ix,tt ⟨(uF p s (bM p s hs) ((p.takes.getD i bJ).when) ho hmw hwh.1 hwh.2),tt ⟨w6,tt ⟨(i + 1,!(dQ p s (bM p s hs) ((p.takes.getD i bJ).when))),rfl,?_,(?_ : p.takes.length - (i + 1) < p.takes.length - i)⟩⟩⟩⟩⟩⟩⟩
       · exact ⟨by omega,lq hfir _ (by unfold gG; clear hfir; cases fir <;> simp_all)⟩
       · omega
   · refine tt ⟨(bF hs0),tt ⟨w6,tt ⟨(i + 1,false),rfl,?_,(?_ : p.takes.length - (i + 1) < p.takes.length - i)⟩⟩⟩
     · exact ⟨by omega,lq hfir _ (by unfold gG; clear hfir; cases fir <;> simp_all)⟩
     · omega
 · refine tt ⟨rfl,⟨by omega,by simp [cB]⟩,?_⟩
   intro m fi2 hinv
   obtain ⟨hm,hfi2⟩ := hinv
   refine tt (cd (fun hc60 => ?_) (fun hc60 => ?_))
   · have hpw := hp.pw m (by omega)
     refine ⟨fun hs2 => ?_,fun hs2 => ?_⟩
     · refine ⟨fun hs3 => ?_,fun hs3 => ?_⟩
       · refine tt ⟨(bT hs2),tt ⟨ix,tt ⟨(bT hs3),tt ⟨w6,tt ⟨(m + 1,true),rfl,?_,(?_ : p.puts.length - (m + 1) < p.puts.length - m)⟩⟩⟩⟩⟩
         · exact ⟨by omega,qJ hfi2 _ (by unfold js; clear hfi2 hfir; cases fi2 <;> simp_all)⟩
         · omega
       · refine tt ⟨(bT hs2),tt ⟨ix,tt ⟨(bF hs3),tt ⟨ix,tt ⟨(uF p s (bM p s hs) ((p.puts.getD m bn).when) ho hmw hpw.2.1.1 hpw.2.1.2),tt ⟨w6,tt ⟨(m + 1,!(dQ p s (bM p s hs) ((p.puts.getD m bn).when))),rfl,?_,(?_ : p.puts.length - (m + 1) < p.puts.length - m)⟩⟩⟩⟩⟩⟩⟩
         · exact ⟨by omega,qJ hfi2 _ (by unfold js; clear hfi2 hfir; cases fi2 <;> simp_all)⟩
         · omega
     · refine tt ⟨(bF hs2),tt ⟨w6,tt ⟨(m + 1,false),rfl,?_,(?_ : p.puts.length - (m + 1) < p.puts.length - m)⟩⟩⟩
       · exact ⟨by omega,qJ hfi2 _ (by unfold js; clear hfi2 hfir; cases fi2 <;> simp_all)⟩
       · omega
   · have hie : i = p.takes.length := by omega
     have hme : m = p.puts.length := by omega
     refine tt ⟨fun hc86 => ?_,fun hc86 => ?_⟩
     · refine tt ⟨?_,(congrArg _ (?_ : s.regs = (((aK p s hs rs).s).regs))),(congrArg _ (?_ : s.mems = (((aK p s hs rs).s).mems))),(congrArg _ (?_ : (List.replicate p.takes.length false) = ((aK p s hs rs).pops))),(congrArg _ (?_ : (List.replicate p.puts.length aU) = ((aK p s hs rs).puts))),oK⟩
       all_goals
         rw [BS (by rw [l9 (rs := rs) (a := fir) (b := fi2) (by rw [hfir,hie]) (by rw [hfi2,hme])]; simpa using hc86)]
         first | done | rfl | simpa using hc86
     · refine tt ⟨(Gp p s (bM p s hs) hp hso hda),tt ⟨rfl,⟨by omega,rfl⟩,?_⟩⟩
       intro q pop hinv
       obtain ⟨hq,hpop⟩ := hinv
       have hpl : pop.length = p.takes.length := by rw [hpop,ec (by rw [List.length_replicate]; exact hq),List.length_replicate]
       refine tt (cd (fun hc95 => ?_) (fun hc95 => ?_))
       · have hwh := sw hp (show q < p.takes.length by omega)
         refine tt ⟨ix,tt ⟨(uF p s (bM p s hs) ((p.takes.getD q bJ).when) ho hmw hwh.1 hwh.2),⟨ix,⟨⟨om,by simp only [List.map_set]; rfl⟩,tt ⟨w6,tt ⟨(q + 1,pop.set q (dQ p s (bM p s hs) ((p.takes.getD q bJ).when))),rfl,?_,(?_ : p.takes.length - (q + 1) < p.takes.length - q)⟩⟩⟩⟩⟩⟩
         · exact ⟨by omega,by rw [hpop]; exact b6 (by rw [List.length_replicate]; omega) rfl⟩
         · omega
       · refine tt ⟨rfl,⟨by omega,rfl⟩,?_⟩
         intro t put hinv
         obtain ⟨ht,hput⟩ := hinv
         have hql : put.length = p.puts.length := by rw [hput,ec (by rw [List.length_replicate]; exact ht),List.length_replicate]
         refine tt (cd (fun hc114 => ?_) (fun hc114 => ?_))
         · have hpw := hp.pw t (by omega)
           refine tt ⟨ix,tt ⟨(uF p s (bM p s hs) ((p.puts.getD t bn).when) ho hmw hpw.2.1.1 hpw.2.1.2),⟨fun hc124 => ?_,fun hc124 => ?_⟩⟩⟩
           · refine tt ⟨ix,tt ⟨(jH ho hmw 2 ((p.puts.getD t bn).data) _ hpw.2.2.1 hpw.2.2.2),tt ⟨ix,⟨⟨om,by simp only [List.map_set]; rfl⟩,tt ⟨w6,tt ⟨(t + 1,put.set t (⟨true,(a5 p s (bM p s hs) ((p.puts.getD t bn).data)).1⟩ : Hd)),rfl,?_,(?_ : p.puts.length - (t + 1) < p.puts.length - t)⟩⟩⟩⟩⟩⟩
             · exact ⟨by omega,by rw [hput]; exact b6 (by rw [List.length_replicate]; omega) (if_pos hc124)⟩
             · omega
           · refine tt ⟨w6,tt ⟨(t + 1,put),rfl,?_,(?_ : p.puts.length - (t + 1) < p.puts.length - t)⟩⟩
             · exact ⟨by omega,by rw [hput]; exact b9 (d := aU) (by rw [List.length_replicate]; omega) ((if_neg (by rw [hc124]; simp)).trans b7.symm)⟩
             · omega
         · refine tt ⟨?_,(congrArg _ (?_ : ((cj p s (bM p s hs)).regs) = (((aK p s hs rs).s).regs))),(congrArg _ (?_ : ((cj p s (bM p s hs)).mems) = (((aK p s hs rs).s).mems))),(congrArg _ (?_ : pop = ((aK p s hs rs).pops))),(congrArg _ (?_ : put = ((aK p s hs rs).puts))),oK⟩
           all_goals
             rw [xw (by rw [l9 (rs := rs) (a := fir) (b := fi2) (by rw [hfir,hie]) (by rw [hfi2,hme])]; simpa using hc86)]
             first | done | (simpa using hc86) | (rw [hpop,show q = p.takes.length by omega,dn (by rw [List.length_replicate]; exact Nat.le_refl _)]) | (rw [hput,show t = p.puts.length by omega,dn (by rw [List.length_replicate]; exact Nat.le_refl _)])
end Go.Proofs.YtgmpoenfoacofaaGreat
