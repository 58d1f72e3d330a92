/-
  The reference of package process.
-/
import Derived.Test.YtifoecfajmnjjaaGreatQPrA
import Derived.Test.YtifoecfajmnjjaaGreatQPrT
import Derived.Test.YtifoecfajmnjjaaGreatQVrA
namespace Go.Proofs.YtifoecfajmnjjaaGreat
open Go.RowKit
set_option linter.unusedVariables false
set_option linter.unusedSimpArgs false
abbrev ny (p : Pr) : aE := (.var 55 [(dS p.name),(dS p.clock),(dL 13 jp bH p.regs),(dL 27 qL aP p.mems),(dL 9 iQ bo p.takes),(dL 16 fa a6 p.puts)])
abbrev BF (p : Pr) (s : Ps) (hs : List Hd) : aE := (.var 156 [(dS p.name),(dS p.clock),(dL 13 jp bH p.regs),(dL 27 qL aP p.mems),(dL 9 iQ bo p.takes),(dL 16 fa a6 p.puts),(LI s.regs),(dL 1 af [] s.mems),(LI (bW p s hs))])
abbrev BG (p : Pr) : D := (.agg [(dS p.name),(dS p.clock),(dL 13 jp bH p.regs),(dL 27 qL aP p.mems),(dL 9 iQ bo p.takes),(dL 16 fa a6 p.puts)])
abbrev E8 (p : Pr) (s : Ps) (data : List Int) : aE := (.var 156 [(dS p.name),(dS p.clock),(dL 13 jp bH p.regs),(dL 27 qL aP p.mems),(dL 9 iQ bo p.takes),(dL 16 fa a6 p.puts),(LI s.regs),(dL 1 af [] s.mems),(LI data)])
abbrev E9 (p : Pr) (s : Ps) (data : List Int) : D := (.agg [(dS p.name),(dS p.clock),(dL 13 jp bH p.regs),(dL 27 qL aP p.mems),(dL 9 iQ bo p.takes),(dL 16 fa a6 p.puts),(LI s.regs),(dL 1 af [] s.mems),(LI data)])
abbrev lV (s : Ps) : List D := [(LI s.regs),(dL 1 af [] s.mems)]
abbrev jf : D := (.ptr 0 0 0 0)
abbrev BH : aE := (.var 48 [(dB false),.nils,.nils,.nils,.nils])
set_option maxRecDepth 100000
abbrev Jk (v w : Int) : Ct := ⟨81,[(i6 v),(i6 w)],false,(dB (cj v w))⟩
theorem yz (v w : Int) (h1 : 0 ≤ w) (h2 : w ≤ 62) : CC (Jk v w) := by
 refine ai.vc (V := TT 1 (CS (v ≥ 0) (TT 2 ((True∧(decide (v ≥ 0)) = true)∧TT 2 ((True∧IntKind.u64.wrap w = w)∧(0 ≤ w∧(Int.fdiv v (2 ^ min w.toNat 64)) = (v / 2 ^ w.toNat))∧TT 4 (((v / 2 ^ w.toNat) == 0) = (cj v w)∧True)))) (TT 2 ((True∧(decide (v ≥ 0)) = false)∧TT 8 (false = (cj v w)∧True))))) (.s 1 (v ≥ 0) (.w 1 [(2,.val (dB true)),(5,.val (dI .u64 w)),(6,.val (i6 (v / 2 ^ w.toNat)))] <| .e) (.w 1 [(2,.val (dB false))] <| .e)) Tryz.func81 rfl rfl rfl (by kernel_rfl) ?_
 refine tt ⟨fun hs0 => ?_,fun hs0 => ?_⟩
 · refine tt ⟨(vT hs0),tt ⟨⟨oK,DL rfl om om⟩,⟨⟨(by omega),(wi h1 h2)⟩,tt ⟨?_,oK⟩⟩⟩⟩
   first | exact Bi (by omega) h1 h2 | (unfold cj; rw [decide_eq_false (by omega)]; rfl)
 · refine tt ⟨(vF hs0),tt ⟨?_,oK⟩⟩
   first | exact Bi (by omega) h1 h2 | (unfold cj; rw [decide_eq_false (by omega)]; rfl)
abbrev KI (p : Pr) (s : Ps) : Ct := ⟨54,[(BG p),(.agg (lV s))],false,(dB (br p s))⟩
abbrev mL (p : Pr) (s : Ps) : Lp (Nat) := fC [2,3,5] 2 (fun (i : Nat) => ⟨[(2,jf),(3,(.ptr 1 0 0 0)),(5,(i6 (i : Int)))],[(ny p),(.var 45 (lV s))]⟩) (fun (i : Nat) => i ≤ s.regs.length∧∀ z,z < i → cj (s.regs.getD z 0) (p.regs.getD z bH).w = true) (fun (i : Nat) => s.regs.length - i)
abbrev mM (p : Pr) (s : Ps) : Lp (Nat) := fC [2,3,6] 2 (fun (j : Nat) => ⟨[(2,jf),(3,(.ptr 1 0 0 0)),(6,(i6 (j : Int)))],[(ny p),(.var 45 (lV s))]⟩) (fun (j : Nat) => j ≤ s.mems.length∧∀ z,z < j → gB p s z = true) (fun (j : Nat) => s.mems.length - j)
abbrev mN (p : Pr) (s : Ps) (j : Nat) : Lp (Nat) := fC [2,3,6,7] 15 (fun (k : Nat) => ⟨[(2,jf),(3,(.ptr 1 0 0 0)),(6,(i6 (j : Int))),(7,(i6 (k : Int)))],[(ny p),(.var 45 (lV s)),.dead,.dead,.dead,.dead,.dead,.dead,.dead,.dead,.dead,.dead,.dead,.dead,.dead]⟩) (fun (k : Nat) => k ≤ (s.mems.getD j []).length∧∀ z,z < k → cj ((s.mems.getD j []).getD z 0) (p.mems.getD j aP).w = true) (fun (k : Nat) => (s.mems.getD j []).length - k)
theorem CY (p : Pr) (s : Ps) (hp : fM p) : CC (KI p s) := by
 have hl1 := hp.rl
 have hl2 := hp.ml
 refine ai.vc (V := TT 3 (CS ((s.regs.length : Int) = (p.regs.length : Int)) (TT 7 ((True∧(!decide ((s.regs.length : Int) = (p.regs.length : Int))) = false)∧TT 8 (CN ((s.mems.length : Int) = (p.mems.length : Int)) (TT 2 (false = (br p s)∧True)) (TT 1 (GO (mL p s) 0 (∀ i,(mL p s).inv i → TT 5 (CD ((i : Int) < (s.regs.length : Int)) (TT 3 (IX (i : Int) s.regs.length∧TT 4 (IX (i : Int) p.regs.length∧TT 2 (CC (Jk (s.regs.getD i 0) ((p.regs.getD i bH).w))∧TT 1 (CB (!(cj (s.regs.getD i 0) ((p.regs.getD i bH).w))) (TT 2 (false = (br p s)∧True)) (TT 1 (W6 ((i + 1 : Nat) : Int)∧TT 1 (AG (mL p s) i (i + 1))))))))) (TT 1 (GO (mM p s) 0 (∀ j,(mM p s).inv j → TT 5 (CD ((j : Int) < (s.mems.length : Int)) (TT 3 (IX (j : Int) s.mems.length∧TT 5 (IX (j : Int) p.mems.length∧TT 3 (CN ((((s.mems.getD j []).length : Nat) : Int) = ((p.mems.getD j aP).words)) (TT 2 (false = (br p s)∧True)) (TT 1 (GO (mN p s j) 0 (∀ k,(mN p s j).inv k → TT 4 (IX (j : Int) s.mems.length∧TT 3 (CD ((k : Int) < (((s.mems.getD j []).length : Nat) : Int)) (TT 3 (IX (j : Int) s.mems.length∧TT 2 (IX (k : Int) ((s.mems.getD j []).length)∧TT 4 (IX (j : Int) p.mems.length∧TT 2 (CC (Jk ((s.mems.getD j []).getD k 0) ((p.mems.getD j aP).w))∧TT 1 (CB (!(cj ((s.mems.getD j []).getD k 0) ((p.mems.getD j aP).w))) (TT 2 (false = (br p s)∧True)) (TT 1 (W6 ((k + 1 : Nat) : Int)∧TT 1 (AG (mN p s j) k (k + 1)))))))))) (TT 1 (W6 ((j + 1 : Nat) : Int)∧TT 1 (AG (mM p s) j (j + 1))))))))))))) (TT 2 (true = (br p s)∧True))))))))))))) (TT 7 ((True∧(!decide ((s.regs.length : Int) = (p.regs.length : Int))) = true)∧TT 10 (false = (br p s)∧True))))) (.s 1 ((s.regs.length : Int) = (p.regs.length : Int)) (.w 1 [(7,.val (dB false))] <| .b 23 (.e) (.l (mL p s) 0 (fun i => .b 28 (.w 6 [(11,(Jk (s.regs.getD i 0) ((p.regs.getD i bH).w)).O)] <| .b 43 (.e) (.w 5 [(1,.val (i6 ((i + 1 : Nat) : Int)))] <| .e)) (.l (mM p s) 0 (fun j => .b 48 (.b 63 (.e) (.l (mN p s j) 0 (fun k => .b 71 (.w 16 [(14,(Jk ((s.mems.getD j []).getD k 0) ((p.mems.getD j aP).w)).O)] <| .b 89 (.e) (.w 15 [(1,.val (i6 ((k + 1 : Nat) : Int)))] <| .e)) (.w 10 [(1,.val (i6 ((j + 1 : Nat) : Int)))] <| .e)))) (.e)))))) (.w 1 [(7,.val (dB true))] <| .e)) Tryz.func54 rfl rfl rfl (by kernel_rfl) ?_
 refine tt ⟨fun hs0 => ?_,fun hs0 => ?_⟩
 · refine tt ⟨(nF hs0),tt (cn (fun hc23 => ?_) (fun hc23 => ?_))⟩
   · refine tt ⟨?_,oK⟩
     first | exact (cT (by omega)).symm | exact (cU (by omega)).symm | exact (cX (i := i) (by omega) (by simpa using hc43)).symm | exact (bl (i := j) (by omega) (eP (by omega))).symm | exact (bl (i := j) (by omega) (eS (j := k) (by omega) (by simpa using hc89))).symm | exact (cY (by omega) (by omega) (fun z hz => h3 z (by omega)) (fun z hz => h4 z (by omega))).symm
   · refine tt ⟨rfl,⟨by omega,fun z hz => by omega⟩,?_⟩
     intro i hinv
     obtain ⟨hi,h3⟩ := hinv
     refine tt (cd (fun hc28 => ?_) (fun hc28 => ?_))
     · have hrw := aW.1 (show au (p.regs.getD i bH).w = true from (hp.rw i (by omega)).1)
       refine tt ⟨ix,tt ⟨ix,tt ⟨(yz (s.regs.getD i 0) ((p.regs.getD i bH).w) om om),tt ⟨fun hc43 => ?_,fun hc43 => ?_⟩⟩⟩⟩
       · refine tt ⟨?_,oK⟩
         first | exact (cT (by omega)).symm | exact (cU (by omega)).symm | exact (cX (i := i) (by omega) (by simpa using hc43)).symm | exact (bl (i := j) (by omega) (eP (by omega))).symm | exact (bl (i := j) (by omega) (eS (j := k) (by omega) (by simpa using hc89))).symm | exact (cY (by omega) (by omega) (fun z hz => h3 z (by omega)) (fun z hz => h4 z (by omega))).symm
       · refine tt ⟨w6,tt ⟨(i + 1),rfl,?_,(?_ : s.regs.length - (i + 1) < s.regs.length - i)⟩⟩
         · exact ⟨by omega,bZ h3 (by simpa using hc43)⟩
         · omega
     · refine tt ⟨rfl,⟨by omega,fun z hz => by omega⟩,?_⟩
       intro j hinv
       obtain ⟨hj,h4⟩ := hinv
       refine tt (cd (fun hc48 => ?_) (fun hc48 => ?_))
       · refine tt ⟨ix,tt ⟨ix,tt (cn (fun hc63 => ?_) (fun hc63 => ?_))⟩⟩
         · refine tt ⟨?_,oK⟩
           first | exact (cT (by omega)).symm | exact (cU (by omega)).symm | exact (cX (i := i) (by omega) (by simpa using hc43)).symm | exact (bl (i := j) (by omega) (eP (by omega))).symm | exact (bl (i := j) (by omega) (eS (j := k) (by omega) (by simpa using hc89))).symm | exact (cY (by omega) (by omega) (fun z hz => h3 z (by omega)) (fun z hz => h4 z (by omega))).symm
         · have hmw : 1 ≤ (p.mems.getD j aP).words∧(p.mems.getD j aP).words ≤ 4 := (hp.mw j (by omega)).2.1
           refine tt ⟨rfl,⟨by omega,fun z hz => by omega⟩,?_⟩
           intro k hinv
           obtain ⟨hk,h5⟩ := hinv
           refine tt ⟨ix,tt (cd (fun hc71 => ?_) (fun hc71 => ?_))⟩
           · have hmww := aW.1 (show au (p.mems.getD j aP).w = true from (hp.mw j (by omega)).1)
             refine tt ⟨ix,tt ⟨ix,tt ⟨ix,tt ⟨(yz ((s.mems.getD j []).getD k 0) ((p.mems.getD j aP).w) om om),tt ⟨fun hc89 => ?_,fun hc89 => ?_⟩⟩⟩⟩⟩
             · refine tt ⟨?_,oK⟩
               first | exact (cT (by omega)).symm | exact (cU (by omega)).symm | exact (cX (i := i) (by omega) (by simpa using hc43)).symm | exact (bl (i := j) (by omega) (eP (by omega))).symm | exact (bl (i := j) (by omega) (eS (j := k) (by omega) (by simpa using hc89))).symm | exact (cY (by omega) (by omega) (fun z hz => h3 z (by omega)) (fun z hz => h4 z (by omega))).symm
             · refine tt ⟨w6,tt ⟨(k + 1),rfl,?_,(?_ : (s.mems.getD j []).length - (k + 1) < (s.mems.getD j []).length - k)⟩⟩
               · exact ⟨by omega,bZ h5 (by simpa using hc89)⟩
               · omega
           · refine tt ⟨w6,tt ⟨(j + 1),rfl,?_,(?_ : s.mems.length - (j + 1) < s.mems.length - j)⟩⟩
             · exact ⟨by omega,bZ h4 (Bh (by omega) (fun z hz => h5 z (by omega)))⟩
             · omega
       · refine tt ⟨?_,oK⟩
         first | exact (cT (by omega)).symm | exact (cU (by omega)).symm | exact (cX (i := i) (by omega) (by simpa using hc43)).symm | exact (bl (i := j) (by omega) (eP (by omega))).symm | exact (bl (i := j) (by omega) (eS (j := k) (by omega) (by simpa using hc89))).symm | exact (cY (by omega) (by omega) (fun z hz => h3 z (by omega)) (fun z hz => h4 z (by omega))).symm
 · refine tt ⟨(nT hs0),tt ⟨?_,oK⟩⟩
   first | exact (cT (by omega)).symm | exact (cU (by omega)).symm | exact (cX (i := i) (by omega) (by simpa using hc43)).symm | exact (bl (i := j) (by omega) (eP (by omega))).symm | exact (bl (i := j) (by omega) (eS (j := k) (by omega) (by simpa using hc89))).symm | exact (cY (by omega) (by omega) (fun z hz => h3 z (by omega)) (fun z hz => h4 z (by omega))).symm
abbrev KJ (p : Pr) : Ct := ⟨59,[(BG p)],true,(.agg [(LI ((aY p).regs)),(dL 1 af [] ((aY p).mems))])⟩
abbrev mO (p : Pr) : Lp (Nat) := fC [1,2,3,4] 4 (fun (i : Nat) => ⟨[(1,jf),(2,(.ptr 1 0 0 0)),(3,(.ptr 2 0 0 0)),(4,(i6 (i : Int)))],[(ny p),(.var 45 [.nils,.nils]),(.var 45 [(.own 3),.nils]),(.arr 3 1 (ah .i64) 0 (aq (fun z => (p.regs.getD z bH).init) i))]⟩) (fun (i : Nat) => i ≤ p.regs.length) (fun (i : Nat) => p.regs.length - i)
abbrev mP (p : Pr) (i : Nat) : Lp (Nat) := fC [1,2,3,5] 5 (fun (j : Nat) => ⟨[(1,jf),(2,(.ptr 1 0 0 0)),(3,(.ptr 2 0 0 0)),(5,(i6 (j : Int)))],[(ny p),(.var 45 [.nils,.nils]),(.var 45 [(.own 3),(.own 4)]),(.arr 3 1 (ah .i64) 0 (aq (fun z => (p.regs.getD z bH).init) i)),(.arr 43 1 af [] (aq (fun z => List.replicate (p.mems.getD z aP).words.toNat (0 : Int)) j))]⟩) (fun (j : Nat) => j ≤ p.mems.length) (fun (j : Nat) => p.mems.length - j)
theorem CZ (p : Pr) (hp : fM p) : CC (KJ p) := by
 have hl1 := hp.rl
 have hl2 := hp.ml
 refine ai.vc (V := TT 6 (GO (mO p) 0 (∀ i,(mO p).inv i → TT 5 (CD ((i : Int) < (p.regs.length : Int)) (TT 5 (IX (i : Int) p.regs.length∧TT 2 (ap [[(i6 ((p.regs.getD i bH).init))]] ([(p.regs.getD i bH).init].map (ah .i64))∧((aq (fun z => (p.regs.getD z bH).init) i).length + ([(p.regs.getD i bH).init].map (ah .i64)).length ≤ 137438953472∧(aq (fun z => (p.regs.getD z bH).init) i).map (ah .i64) ++ [(p.regs.getD i bH).init].map (ah .i64) = (aq (fun z => (p.regs.getD z bH).init) (i + 1)).map (ah .i64))∧TT 3 (W6 ((i + 1 : Nat) : Int)∧TT 1 (AG (mO p) i (i + 1)))))) (TT 1 (GO (mP p i) 0 (∀ j,(mP p i).inv j → TT 5 (CD ((j : Int) < (p.mems.length : Int)) (TT 5 (IX (j : Int) p.mems.length∧TT 2 ((((0 : Int) ≤ (p.mems.getD j aP).words∧(p.mems.getD j aP).words ≤ (p.mems.getD j aP).words∧(p.mems.getD j aP).words ≤ 137438953472)∧(List.replicate (p.mems.getD j aP).words.toNat (0 : Int)).length = ((p.mems.getD j aP).words).toNat∧∀ x ∈ (List.replicate (p.mems.getD j aP).words.toNat (0 : Int)),cz [(i6 0)] ((ah .i64) x))∧ap [[(LI (List.replicate (p.mems.getD j aP).words.toNat (0 : Int)))]] ([List.replicate (p.mems.getD j aP).words.toNat (0 : Int)].map af)∧((aq (fun z => List.replicate (p.mems.getD z aP).words.toNat (0 : Int)) j).length + ([List.replicate (p.mems.getD j aP).words.toNat (0 : Int)].map af).length ≤ 137438953472∧(aq (fun z => List.replicate (p.mems.getD z aP).words.toNat (0 : Int)) j).map af ++ [List.replicate (p.mems.getD j aP).words.toNat (0 : Int)].map af = (aq (fun z => List.replicate (p.mems.getD z aP).words.toNat (0 : Int)) (j + 1)).map af)∧TT 3 (W6 ((j + 1 : Nat) : Int)∧TT 1 (AG (mP p i) j (j + 1)))))) (TT 3 ((aq (fun z => (p.regs.getD z bH).init) i).map (ah .i64) = ((aY p).regs).map (ah .i64)∧(aq (fun z => List.replicate (p.mems.getD z aP).words.toNat (0 : Int)) j).map af = ((aY p).mems).map af∧True)))))))))) (.g 2 2 0 3 1 (ah .i64) 0 <| .l (mO p) 0 (fun i => .b 11 (.w 5 [(8,.box 3 1 (ah .i64) 0 [(p.regs.getD i bH).init]),(9,.box 3 1 (ah .i64) 0 (aq (fun z => (p.regs.getD z bH).init) (i + 1)))] <| .w 4 [(1,.val (i6 ((i + 1 : Nat) : Int)))] <| .e) (.g 6 2 1 43 1 af [] <| .l (mP p i) 0 (fun j => .b 29 (.w 9 [(8,.frz 3 1 (ah .i64) 0 (List.replicate (p.mems.getD j aP).words.toNat (0 : Int))),(9,.box 43 1 af [] [List.replicate (p.mems.getD j aP).words.toNat (0 : Int)]),(10,.box 43 1 af [] (aq (fun z => List.replicate (p.mems.getD z aP).words.toNat (0 : Int)) (j + 1)))] <| .w 8 [(1,.val (i6 ((j + 1 : Nat) : Int)))] <| .e) (.e))))) Tryz.func59 rfl rfl rfl (by kernel_rfl) ?_
 refine tt ⟨rfl,(by omega),?_⟩
 intro i hinv
 have hi := hinv
 refine tt (cd (fun hc11 => ?_) (fun hc11 => ?_))
 · refine tt ⟨ix,tt ⟨⟨⟨rfl,oK⟩,oK⟩,⟨(f8 (f := fun z => (p.regs.getD z bH).init) (by omega)),tt ⟨w6,tt ⟨(i + 1),rfl,(?_ : (i + 1) ≤ p.regs.length),(?_ : p.regs.length - (i + 1) < p.regs.length - i)⟩⟩⟩⟩⟩
   · omega
   · omega
 · refine tt ⟨rfl,(by omega),?_⟩
   intro j hinv
   have hj := hinv
   refine tt (cd (fun hc29 => ?_) (fun hc29 => ?_))
   · have hmw : 1 ≤ (p.mems.getD j aP).words∧(p.mems.getD j aP).words ≤ 4 := (hp.mw j (by omega)).2.1
     refine tt ⟨ix,tt ⟨⟨by omega,List.length_replicate,fun x hx => by rw [List.eq_of_mem_replicate hx]; exact ⟨rfl,oK⟩⟩,⟨⟨⟨rfl,oK⟩,oK⟩,⟨(f8 (f := fun z => List.replicate (p.mems.getD z aP).words.toNat (0 : Int)) (by omega)),tt ⟨w6,tt ⟨(j + 1),rfl,(?_ : (j + 1) ≤ p.mems.length),(?_ : p.mems.length - (j + 1) < p.mems.length - j)⟩⟩⟩⟩⟩⟩
     · omega
     · omega
   · refine tt ⟨(congrArg _ (?_ : (aq (fun z => (p.regs.getD z bH).init) i) = ((aY p).regs))),(congrArg _ (?_ : (aq (fun z => List.replicate (p.mems.getD z aP).words.toNat (0 : Int)) j) = ((aY p).mems))),oK⟩
     · rw [pD,show i = p.regs.length by omega]
     · rw [pD,show j = p.mems.length by omega]
abbrev yA (p : Pr) (s : Ps) (data : List Int) (n : Nat) (e : Ex) : Ct := ⟨77,[(E9 p s data),(.agg [(i6 e.op),(dS e.name),(i6 e.k.n),(dS e.k.p),(i6 e.w.n),(dS e.w.p),(dL 7 (eA n) dE e.args)])],false,(.agg [(i6 ((be p s data e).1)),(i6 ((be p s data e).2))])⟩
abbrev sm (p : Pr) (s : Ps) (data : List Int) (n : Nat) (e : Ex) : Lp (Nat) := fC [2,3,4,7,8,9] 5 (fun (i : Nat) => ⟨[(2,jf),(3,(.ptr 1 0 0 0)),(4,(.ptr 2 0 0 0)),(7,(.own 3)),(8,(.own 4)),(9,(i6 (i : Int)))],[(E8 p s data),(.var 62 [(i6 e.op),(dS e.name),(i6 e.k.n),(dS e.k.p),(i6 e.w.n),(dS e.w.p),(dL 7 (eA (n + 1)) dE e.args)]),(.var 161 [(i6 0),(i6 0)]),(.arr 3 1 (ah .i64) 0 (eG p s data (e.args.take i))),(.arr 3 1 (ah .i64) 0 (c5 p s data (e.args.take i)))]⟩) (fun (i : Nat) => i ≤ e.args.length) (fun (i : Nat) => e.args.length - i)
theorem BI (p : Pr) (s : Ps) (data : List Int) (n : Nat) (e : Ex) (c : Sc) (v : Int) (ho : qM c p s data) (ht : eK c e = some v) (hmw : ∀ i,i < p.mems.length → ((s.mems.getD i []).length : Int) = (p.mems.getD i aP).words) (ih : ∀ a ∈ e.args,CC (yA p s data n a)) : CC (yA p s data (n + 1) e) := by
 have hal := Ef ht
 refine ai.vc (V := TT 7 (CD (e.op = 16) (TT 6 (IX e.k.n s.regs.length∧TT 7 (IX e.k.n p.regs.length∧TT 5 ((((s.regs.getD e.k.n.toNat 0) = ((be p s data e).1)∧((p.regs.getD e.k.n.toNat bH).w) = ((be p s data e).2)∧True))∧((True∧True∧True)))))) (TT 2 (CD (e.op = 17) (TT 6 (IX e.k.n p.mems.length∧TT 6 (IX 0 e.args.length∧TT 1 (CC (yA p s data n (e.args.getD 0 dE))∧TT 8 (IX e.k.n s.mems.length∧TT 5 ((((p.mems.getD e.k.n.toNat aP).words) ≠ 0∧(Int.tmod ((be p s data (e.args.getD 0 dE)).1) ((p.mems.getD e.k.n.toNat aP).words)) = (Int.tmod (be p s data (e.args.getD 0 dE)).1 ((s.mems.getD e.k.n.toNat []).length : Int)))∧IX (Int.tmod (be p s data (e.args.getD 0 dE)).1 ((s.mems.getD e.k.n.toNat []).length : Int)) ((s.mems.getD e.k.n.toNat []).length)∧TT 6 (((((s.mems.getD e.k.n.toNat []).getD ((Int.tmod (be p s data (e.args.getD 0 dE)).1 ((s.mems.getD e.k.n.toNat []).length : Int)).toNat) 0) = ((be p s data e).1)∧((p.mems.getD e.k.n.toNat aP).w) = ((be p s data e).2)∧True))∧((True∧True∧True))))))))) (TT 2 (CD (e.op = 18) (TT 5 (IX e.k.n data.length∧TT 7 (IX e.k.n p.takes.length∧TT 5 ((((data.getD e.k.n.toNat 0) = ((be p s data e).1)∧((p.takes.getD e.k.n.toNat bo).w) = ((be p s data e).2)∧True))∧((True∧True∧True)))))) (ap [] ((eG p s data (e.args.take 0)).map (ah .i64))∧ap [] ((c5 p s data (e.args.take 0)).map (ah .i64))∧TT 3 (GO (sm p s data n e) 0 (∀ i,(sm p s data n e).inv i → TT 5 (CD ((i : Int) < (e.args.length : Int)) (TT 4 (IX (i : Int) e.args.length∧TT 1 (CC (yA p s data n (e.args.getD i dE))∧TT 5 (ap [[(i6 ((be p s data (e.args.getD i dE)).1))]] ([(be p s data (e.args.getD i dE)).1].map (ah .i64))∧((eG p s data (e.args.take i)).length + ([(be p s data (e.args.getD i dE)).1].map (ah .i64)).length ≤ 137438953472∧(eG p s data (e.args.take i)).map (ah .i64) ++ [(be p s data (e.args.getD i dE)).1].map (ah .i64) = (eG p s data (e.args.take (i + 1))).map (ah .i64))∧TT 4 (ap [[(i6 ((be p s data (e.args.getD i dE)).2))]] ([(be p s data (e.args.getD i dE)).2].map (ah .i64))∧((c5 p s data (e.args.take i)).length + ([(be p s data (e.args.getD i dE)).2].map (ah .i64)).length ≤ 137438953472∧(c5 p s data (e.args.take i)).map (ah .i64) ++ [(be p s data (e.args.getD i dE)).2].map (ah .i64) = (c5 p s data (e.args.take (i + 1))).map (ah .i64))∧TT 2 (W6 ((i + 1 : Nat) : Int)∧TT 1 (AG (sm p s data n e) i (i + 1)))))))) (TT 10 (CK (Jj e.op (c5 p s data (e.args.take i)) e.k.n e.w.n)∧TT 12 (ap [[(i6 e.k.n)],[(i6 e.w.n)]] ([e.k.n,e.w.n].map (ah .i64))∧TT 1 (CK (KH e.op (c5 p s data (e.args.take i)) (eG p s data (e.args.take i)) [e.k.n,e.w.n])∧TT 9 ((((cx e.op (c5 p s data (e.args.take i)) (eG p s data (e.args.take i)) [e.k.n,e.w.n]) = ((be p s data e).1)∧(bU e.op (c5 p s data (e.args.take i)) e.k.n e.w.n) = ((be p s data e).2)∧True))∧((True∧True∧True))))))))))))))))) (.b 15 (.e) (.b 35 (.w 6 [(5,(yA p s data n (e.args.getD 0 dE)).O)] <| .w 7 [(12,.val (i6 (Int.tmod (be p s data (e.args.getD 0 dE)).1 ((s.mems.getD e.k.n.toNat []).length : Int))))] <| .e) (.b 69 (.e) (.w 10 [(0,.box 3 1 (ah .i64) 0 (eG p s data (e.args.take 0))),(1,.box 3 1 (ah .i64) 0 (c5 p s data (e.args.take 0)))] <| .l (sm p s data n e) 0 (fun i => .b 94 (.w 14 [(6,(yA p s data n (e.args.getD i dE)).O)] <| .w 15 [(3,.box 3 1 (ah .i64) 0 [(be p s data (e.args.getD i dE)).1]),(4,.box 3 1 (ah .i64) 0 (eG p s data (e.args.take (i + 1))))] <| .w 16 [(3,.box 3 1 (ah .i64) 0 [(be p s data (e.args.getD i dE)).2]),(4,.box 3 1 (ah .i64) 0 (c5 p s data (e.args.take (i + 1))))] <| .w 13 [(1,.val (i6 ((i + 1 : Nat) : Int)))] <| .e) (.w 17 [(10,(Jj e.op (c5 p s data (e.args.take i)) e.k.n e.w.n).O')] <| .w 18 [(10,.box 3 1 (ah .i64) 0 [e.k.n,e.w.n]),(12,(KH e.op (c5 p s data (e.args.take i)) (eG p s data (e.args.take i)) [e.k.n,e.w.n]).O')] <| .e)))))) Tryz.func77 rfl rfl rfl (by kernel_rfl) ?_
 refine tt (cd (fun hc15 => ?_) (fun hc15 => ?_))
 · obtain ⟨h1,h2,h3⟩ := Eg ho ht hc15
   refine tt ⟨ix,tt ⟨ix,tt ⟨⟨?_,?_,oK⟩,⟨oK,oK,oK⟩⟩⟩⟩
   all_goals (first | exact (eF hc15).1.symm | exact (eF hc15).2.symm | exact (db hc69).1.symm | exact (db hc69).2.symm | exact (dc hc35 hlen).1.symm | exact (dc hc35 hlen).2.symm | (rw [hie,List.take_length]; exact (gI hc15 hc69 hc35).1.symm) | (rw [hie,List.take_length]; exact (gI hc15 hc69 hc35).2.symm))
 · refine tt (cd (fun hc35 => ?_) (fun hc35 => ?_))
   · obtain ⟨h1,h2,h3,hlen,h4,h5,h6⟩ := A7 ho ht hc35
     have hpw : (p.mems.getD e.k.n.toNat aP).words = ((s.mems.getD e.k.n.toNat []).length : Int) := (hmw _ (by omega)).symm
     have hz : (s.mems.getD e.k.n.toNat []).length ≠ 0 := by omega
     refine tt ⟨ix,tt ⟨ix,tt ⟨(ih _ (hJ (by omega))),tt ⟨ix,tt ⟨⟨(by omega),(by rw [hpw])⟩,⟨ix,tt ⟨⟨?_,?_,oK⟩,⟨oK,oK,oK⟩⟩⟩⟩⟩⟩⟩⟩
     all_goals (first | exact (eF hc15).1.symm | exact (eF hc15).2.symm | exact (db hc69).1.symm | exact (db hc69).2.symm | exact (dc hc35 hlen).1.symm | exact (dc hc35 hlen).2.symm | (rw [hie,List.take_length]; exact (gI hc15 hc69 hc35).1.symm) | (rw [hie,List.take_length]; exact (gI hc15 hc69 hc35).2.symm))
   · refine tt (cd (fun hc69 => ?_) (fun hc69 => ?_))
     · obtain ⟨h1,h2,h3⟩ := A6 ho ht hc69
       refine tt ⟨ix,tt ⟨ix,tt ⟨⟨?_,?_,oK⟩,⟨oK,oK,oK⟩⟩⟩⟩
       all_goals (first | exact (eF hc15).1.symm | exact (eF hc15).2.symm | exact (db hc69).1.symm | exact (db hc69).2.symm | exact (dc hc35 hlen).1.symm | exact (dc hc35 hlen).2.symm | (rw [hie,List.take_length]; exact (gI hc15 hc69 hc35).1.symm) | (rw [hie,List.take_length]; exact (gI hc15 hc69 hc35).2.symm))
     · refine ⟨oK,⟨oK,tt ⟨rfl,(by omega),?_⟩⟩⟩
       intro i hinv
       have hi := hinv
       refine tt (cd (fun hc94 => ?_) (fun hc94 => ?_))
       · refine tt ⟨ix,tt ⟨(ih _ (hJ (by omega))),tt ⟨⟨⟨rfl,oK⟩,oK⟩,⟨⟨by simp only [List.length_map,List.length_cons,List.length_nil]; rw [te,List.length_take]; omega,by rw [uX (by omega),List.map_append]⟩,tt ⟨⟨⟨rfl,oK⟩,oK⟩,⟨⟨by simp only [List.length_map,List.length_cons,List.length_nil]; rw [px,List.length_take]; omega,by rw [uY (by omega),List.map_append]⟩,tt ⟨w6,tt ⟨(i + 1),rfl,(?_ : (i + 1) ≤ e.args.length),(?_ : e.args.length - (i + 1) < e.args.length - i)⟩⟩⟩⟩⟩⟩⟩⟩
         · omega
         · omega
       · have hie : i = e.args.length := by omega
         have hev := Ez ho ht hc15 hc35 hc69
         have hev1 : gi e.op (c5 p s data (e.args.take i)) e.k.n e.w.n = true := by rw [hie,List.take_length]; exact hev.1
         have hev2 : xR (c5 p s data (e.args.take i)) (eG p s data (e.args.take i)) = true := by rw [hie,List.take_length]; exact hev.2
         refine tt ⟨⟨c4 _ rfl,(tH e.op (c5 p s data (e.args.take i)) e.k.n e.w.n hev1)⟩,tt ⟨⟨⟨rfl,oK⟩,⟨rfl,oK⟩,oK⟩,tt ⟨⟨c4 _ rfl,(Aj e.op (c5 p s data (e.args.take i)) (eG p s data (e.args.take i)) [e.k.n,e.w.n] hev1 (by rw [te,px]) hev2 rfl)⟩,tt ⟨⟨?_,?_,oK⟩,⟨oK,oK,oK⟩⟩⟩⟩⟩
         all_goals (first | exact (eF hc15).1.symm | exact (eF hc15).2.symm | exact (db hc69).1.symm | exact (db hc69).2.symm | exact (dc hc35 hlen).1.symm | exact (dc hc35 hlen).2.symm | (rw [hie,List.take_length]; exact (gI hc15 hc69 hc35).1.symm) | (rw [hie,List.take_length]; exact (gI hc15 hc69 hc35).2.symm))
theorem jK {c : Sc} {p : Pr} {s : Ps} {data : List Int} (ho : qM c p s data) (hmw : ∀ i,i < p.mems.length → ((s.mems.getD i []).length : Int) = (p.mems.getD i aP).words) : ∀ (n : Nat) (e : Ex) (v : Int),eK c e = some v → ff e ≤ n + 1 → CC (yA p s data n e)
  | 0,e,v,ht,hd => by
    have ha : e.args = [] := by
      cases hl : e.args with
      | nil => rfl
      | cons a r =>
        have := sa (e := e) (a := a) (by rw [hl]; simp)
        cases a with | mk op name k w args => rw [ff] at this; omega
    have h := BI p s data 0 e c v ho ht hmw (fun a h => by rw [ha] at h; cases h)
    refine ai.recast ?_ h
    refine ⟨s6 _ rfl,⟨rfl,rfl,rfl,rfl,rfl,rfl,?_,oK⟩,oK⟩
    show e.args.map (eA 0) = e.args.map (eA 1)
    rw [ha]; rfl
  | n + 1,e,v,ht,hd => BI p s data n e c v ho ht hmw (fun a h => by
    obtain ⟨w,hw⟩ := Ee ht h
    exact jK ho hmw n a w hw (by have := sa h; omega))
abbrev Ak (p : Pr) (s : Ps) (data : List Int) (e : Ex) : Ct := ⟨75,[(E9 p s data),(.agg [(i6 e.op),(dS e.name),(i6 e.k.n),(dS e.k.p),(i6 e.w.n),(dS e.w.p),(dL 7 (eA 2) dE e.args)])],false,(dB (dY p s data e))⟩
theorem tI (p : Pr) (s : Ps) (data : List Int) (e : Ex) {c : Sc} {v : Int} (ho : qM c p s data) (hmw : ∀ i,i < p.mems.length → ((s.mems.getD i []).length : Int) = (p.mems.getD i aP).words) (ht : eK c e = some v) (hd : ff e ≤ 3) : CC (Ak p s data e) := by
 refine ai.vc (V := TT 5 (CC (yA p s data 2 e)∧TT 4 ((((be p s data e).1) == 1) = (dY p s data e)∧True))) (.w 1 [(2,(yA p s data 2 e).O)] <| .e) Tryz.func75 rfl rfl rfl (by kernel_rfl) ?_
 refine tt ⟨(jK ho hmw 2 e _ ht hd),tt ⟨?_,oK⟩⟩
 rfl
abbrev KK (p : Pr) (s : Ps) (hs : List Hd) (rs : List Bool) : Ct := ⟨74,[(BG p),(.agg (lV s)),(.agg [(dL 2 bp aK hs),(LB rs)])],true,(.agg [(dS p.name),(dS p.clock),(dL 13 jp bH p.regs),(dL 27 qL aP p.mems),(dL 9 iQ bo p.takes),(dL 16 fa a6 p.puts),(LI s.regs),(dL 1 af [] s.mems),(LI (bW p s hs))])⟩
abbrev fV (p : Pr) (s : Ps) (hs : List Hd) (rs : List Bool) : Lp (Nat × List Int) := rM [3,5,6,7,8,9] 20 (fun (i : Nat) (dat : List Int) => ⟨[(3,jf),(5,(.ptr 2 0 0 0)),(6,(.ptr 3 0 0 0)),(7,(.ptr 11 0 0 0)),(8,(.ptr 19 0 0 0)),(9,(i6 (i : Int)))],[(ny p),(.var 45 (lV s)),(.var 121 [(dL 2 bp aK hs),(LB rs)]),(.var 156 [(dS e0),(dS e0),.nils,.nils,.nils,.nils,.nils,.nils,.nils]),.dead,.dead,.dead,.dead,.dead,.dead,.dead,(.var 156 [(dS p.name),(dS p.clock),(dL 13 jp bH p.regs),(dL 27 qL aP p.mems),(dL 9 iQ bo p.takes),(dL 16 fa a6 p.puts),(LI s.regs),(dL 1 af [] s.mems),(LI (iR p))]),.dead,.dead,.dead,.dead,.dead,(.arr 3 1 (ah .i64) 0 dat),.dead,(.var 156 [(dS p.name),(dS p.clock),(dL 13 jp bH p.regs),(dL 27 qL aP p.mems),(dL 9 iQ bo p.takes),(dL 16 fa a6 p.puts),(LI s.regs),(dL 1 af [] s.mems),(.own 17)])]⟩) (fun (i : Nat) (dat : List Int) => i ≤ p.takes.length∧dat = b8 (lH p s hs) (iR p) i) (fun (i : Nat) (dat : List Int) => p.takes.length - i)
theorem Al (p : Pr) (s : Ps) (hs : List Hd) (rs : List Bool) (hp : fM p) (hso : oa p s) (hh : xZ p hs) : CC (KK p s hs rs) := by
 have ht1 := hp.tl
 have ht2 := hp.pl
 have hhl := hh.l
 have hmw := hso.mn
 have ho := gm hp hso (GX hp)
 refine ai.vc (V := TT 9 ((((0 : Int) ≤ (p.takes.length : Int)∧(p.takes.length : Int) ≤ (p.takes.length : Int)∧(p.takes.length : Int) ≤ 137438953472)∧(iR p).length = p.takes.length∧∀ x ∈ (iR p),cz [(i6 0)] ((ah .i64) x))∧TT 8 ((((0 : Int) ≤ (p.takes.length : Int)∧(p.takes.length : Int) ≤ (p.takes.length : Int)∧(p.takes.length : Int) ≤ 137438953472)∧(iR p).length = p.takes.length∧∀ x ∈ (iR p),cz [(i6 0)] ((ah .i64) x))∧TT 4 (GO (fV p s hs rs) (0,iR p) (∀ i dat,(fV p s hs rs).inv (i,dat) → TT 5 (CD ((i : Int) < (p.takes.length : Int)) (CS ((dY p s (iR p) ((p.takes.getD i bo).when)) = true) (TT 4 (IX (i : Int) p.takes.length∧TT 2 (CC (Ak p s (iR p) ((p.takes.getD i bo).when))∧(True∧(dY p s (iR p) ((p.takes.getD i bo).when)) = true)∧TT 3 (IX (i : Int) hs.length∧TT 3 (CB ((hs.getD i aK).has) (TT 6 (IX (i : Int) hs.length∧TT 2 (IX (i : Int) dat.length∧(i < dat.length∧(dat.map (ah .i64)).set i (((ah .i64) (dat.getD i 0)).take 0 ++ [(.int .i64 ((hs.getD i aK).v))] ++ ((ah .i64) (dat.getD i 0)).drop (0 + 1)) = (dat.set i ((hs.getD i aK).v)).map (ah .i64))∧TT 1 (W6 ((i + 1 : Nat) : Int)∧TT 1 (AG (fV p s hs rs) (i,dat) (i + 1,dat.set i ((hs.getD i aK).v))))))) (TT 1 (W6 ((i + 1 : Nat) : Int)∧TT 1 (AG (fV p s hs rs) (i,dat) (i + 1,dat))))))))) (TT 4 (IX (i : Int) p.takes.length∧TT 2 (CC (Ak p s (iR p) ((p.takes.getD i bo).when))∧(True∧(dY p s (iR p) ((p.takes.getD i bo).when)) = false)∧TT 2 (W6 ((i + 1 : Nat) : Int)∧TT 1 (AG (fV p s hs rs) (i,dat) (i + 1,dat))))))) (TT 3 (p.name = p.name∧p.clock = p.clock∧p.regs.map jp = p.regs.map jp∧p.mems.map qL = p.mems.map qL∧p.takes.map iQ = p.takes.map iQ∧p.puts.map fa = p.puts.map fa∧s.regs.map (ah .i64) = s.regs.map (ah .i64)∧s.mems.map af = s.mems.map af∧dat.map (ah .i64) = (bW p s hs).map (ah .i64)∧True)))))))) (.w 1 [(5,.frz 3 1 (ah .i64) 0 (iR p))] <| .w 2 [(5,.box 3 1 (ah .i64) 0 (iR p))] <| .l (fV p s hs rs) (0,iR p) (fun ⟨i,dat⟩ => .b 28 (.s 6 ((dY p s (iR p) ((p.takes.getD i bo).when)) = true) (.w 6 [(7,(Ak p s (iR p) ((p.takes.getD i bo).when)).O),(8,.val (dB true))] <| .b 46 (.w 7 [(10,.box 3 1 (ah .i64) 0 (dat.set i ((hs.getD i aK).v)))] <| .w 5 [(1,.val (i6 ((i + 1 : Nat) : Int)))] <| .e) (.w 5 [(1,.val (i6 ((i + 1 : Nat) : Int)))] <| .e)) (.w 6 [(7,(Ak p s (iR p) ((p.takes.getD i bo).when)).O),(8,.val (dB false))] <| .w 5 [(1,.val (i6 ((i + 1 : Nat) : Int)))] <| .e)) (.e))) Tryz.func74 rfl rfl rfl (by kernel_rfl) ?_
 refine tt ⟨⟨by omega,d7,fun x hx => by rw [List.eq_of_mem_replicate hx]; exact ⟨rfl,oK⟩⟩,tt ⟨⟨by omega,d7,fun x hx => by rw [List.eq_of_mem_replicate hx]; exact ⟨rfl,oK⟩⟩,tt ⟨rfl,⟨by omega,rfl⟩,?_⟩⟩⟩
 intro i dat hinv
 obtain ⟨hi,hdat⟩ := hinv
 have hdl : dat.length = p.takes.length := by rw [hdat,c6 (by rw [d7]; exact hi),d7]
 refine tt (cd (fun hc28 => ?_) (fun hc28 => ?_))
 · have hwh := se hp (show i < p.takes.length by omega)
   refine ⟨fun hs0 => ?_,fun hs0 => ?_⟩
   · refine tt ⟨ix,tt ⟨(tI p s (iR p) ((p.takes.getD i bo).when) ho hmw hwh.1 hwh.2),⟨(bT hs0),tt ⟨ix,tt ⟨fun hc46 => ?_,fun hc46 => ?_⟩⟩⟩⟩⟩
     · refine tt ⟨ix,tt ⟨ix,⟨⟨om,by simp only [List.map_set]; rfl⟩,tt ⟨w6,tt ⟨(i + 1,dat.set i ((hs.getD i aK).v)),rfl,?_,(?_ : p.takes.length - (i + 1) < p.takes.length - i)⟩⟩⟩⟩⟩
       · exact ⟨by omega,by rw [hdat]; exact bL (by rw [d7]; omega) (F8 hs0 hc46)⟩
       · omega
     · refine tt ⟨w6,tt ⟨(i + 1,dat),rfl,?_,(?_ : p.takes.length - (i + 1) < p.takes.length - i)⟩⟩
       · exact ⟨by omega,by rw [hdat]; exact bD (by rw [d7]; omega) (by first | exact Bj (by assumption) | exact Bk (by rw [hc46]; simp))⟩
       · omega
   · refine tt ⟨ix,tt ⟨(tI p s (iR p) ((p.takes.getD i bo).when) ho hmw hwh.1 hwh.2),⟨(bF hs0),tt ⟨w6,tt ⟨(i + 1,dat),rfl,?_,(?_ : p.takes.length - (i + 1) < p.takes.length - i)⟩⟩⟩⟩⟩
     · exact ⟨by omega,by rw [hdat]; exact bD (by rw [d7]; omega) (by first | exact Bj (by assumption) | exact Bk (by rw [hc46]; simp))⟩
     · omega
 · refine tt ⟨rfl,rfl,rfl,rfl,rfl,rfl,rfl,rfl,(congrArg _ (?_ : dat = (bW p s hs))),oK⟩
   rw [hdat,show i = p.takes.length by omega,cG (by rw [d7]; exact Nat.le_refl _)]; rfl
abbrev KL (p : Pr) (s : Ps) (data : List Int) : Ct := ⟨76,[(E9 p s data)],true,(.agg [(LI ((ci p s data).regs)),(dL 1 af [] ((ci p s data).mems))])⟩
abbrev p4 (p : Pr) (s : Ps) (data : List Int) : Lp (Nat) := fC [1,2,3,4] 4 (fun (i : Nat) => ⟨[(1,jf),(2,(.ptr 1 0 0 0)),(3,(.ptr 2 0 0 0)),(4,(i6 (i : Int)))],[(E8 p s data),(.var 45 [.nils,.nils]),(.var 45 [(.own 3),.nils]),(.arr 3 1 (ah .i64) 0 (aq (fun z => (be p s data (p.regs.getD z bH).next).1) i))]⟩) (fun (i : Nat) => i ≤ p.regs.length) (fun (i : Nat) => p.regs.length - i)
abbrev lW (p : Pr) (s : Ps) (data : List Int) (i : Nat) : Lp (Nat) := fC [1,2,3,5] 5 (fun (j : Nat) => ⟨[(1,jf),(2,(.ptr 1 0 0 0)),(3,(.ptr 2 0 0 0)),(5,(i6 (j : Int)))],[(E8 p s data),(.var 45 [.nils,.nils]),(.var 45 [(.own 3),(.own 4)]),(.arr 3 1 (ah .i64) 0 (aq (fun z => (be p s data (p.regs.getD z bH).next).1) i)),(.arr 43 1 af [] (aq (qh p s data) j))]⟩) (fun (j : Nat) => j ≤ p.mems.length) (fun (j : Nat) => p.mems.length - j)
theorem Fa (p : Pr) (s : Ps) (data : List Int) (hp : fM p) (hso : oa p s) (hda : xY p data) : CC (KL p s data) := by
 have hl1 := hp.rl
 have hl2 := hp.ml
 have hmw := hso.mn
 have ho := gm hp hso hda
 have hsl := hso.ml
 refine ai.vc (V := TT 6 (GO (p4 p s data) 0 (∀ i,(p4 p s data).inv i → TT 6 (CD ((i : Int) < (p.regs.length : Int)) (TT 7 (IX (i : Int) p.regs.length∧TT 2 (CC (yA p s data 2 ((p.regs.getD i bH).next))∧TT 1 (ap [[(i6 ((be p s data ((p.regs.getD i bH).next)).1))]] ([(be p s data ((p.regs.getD i bH).next)).1].map (ah .i64))∧((aq (fun z => (be p s data (p.regs.getD z bH).next).1) i).length + ([(be p s data ((p.regs.getD i bH).next)).1].map (ah .i64)).length ≤ 137438953472∧(aq (fun z => (be p s data (p.regs.getD z bH).next).1) i).map (ah .i64) ++ [(be p s data ((p.regs.getD i bH).next)).1].map (ah .i64) = (aq (fun z => (be p s data (p.regs.getD z bH).next).1) (i + 1)).map (ah .i64))∧TT 3 (W6 ((i + 1 : Nat) : Int)∧TT 1 (AG (p4 p s data) i (i + 1))))))) (TT 1 (GO (lW p s data i) 0 (∀ j,(lW p s data i).inv j → TT 6 (CD ((j : Int) < (p.mems.length : Int)) (TT 4 (IX (j : Int) p.mems.length∧TT 3 (ap [] (([] : List Int).map (ah .i64))∧TT 4 (IX (j : Int) s.mems.length∧TT 1 ((([] : List Int).length + ((s.mems.getD j []).map (ah .i64)).length ≤ 137438953472∧([] : List Int).map (ah .i64) ++ (s.mems.getD j []).map (ah .i64) = (s.mems.getD j []).map (ah .i64))∧TT 4 (CC (Ak p s data ((p.mems.getD j aP).enable))∧CB (dY p s data ((p.mems.getD j aP).enable)) (TT 4 (CC (yA p s data 2 ((p.mems.getD j aP).addr))∧TT 3 (((p.mems.getD j aP).words) ≠ 0∧TT 3 (CC (yA p s data 2 ((p.mems.getD j aP).data))∧TT 1 (IX (Int.tmod ((be p s data ((p.mems.getD j aP).addr)).1) ((p.mems.getD j aP).words)) ((s.mems.getD j []).length)∧((Int.tmod ((be p s data ((p.mems.getD j aP).addr)).1) ((p.mems.getD j aP).words)).toNat < (s.mems.getD j []).length∧((s.mems.getD j []).map (ah .i64)).set ((Int.tmod ((be p s data ((p.mems.getD j aP).addr)).1) ((p.mems.getD j aP).words)).toNat) (((ah .i64) ((s.mems.getD j []).getD ((Int.tmod ((be p s data ((p.mems.getD j aP).addr)).1) ((p.mems.getD j aP).words)).toNat) 0)).take 0 ++ [(.int .i64 ((be p s data ((p.mems.getD j aP).data)).1))] ++ ((ah .i64) ((s.mems.getD j []).getD ((Int.tmod ((be p s data ((p.mems.getD j aP).addr)).1) ((p.mems.getD j aP).words)).toNat) 0)).drop (0 + 1)) = ((s.mems.getD j []).set ((Int.tmod ((be p s data ((p.mems.getD j aP).addr)).1) ((p.mems.getD j aP).words)).toNat) ((be p s data ((p.mems.getD j aP).data)).1)).map (ah .i64))∧TT 3 (ap [[(LI ((s.mems.getD j []).set ((Int.tmod ((be p s data ((p.mems.getD j aP).addr)).1) ((p.mems.getD j aP).words)).toNat) ((be p s data ((p.mems.getD j aP).data)).1)))]] ([(s.mems.getD j []).set ((Int.tmod ((be p s data ((p.mems.getD j aP).addr)).1) ((p.mems.getD j aP).words)).toNat) ((be p s data ((p.mems.getD j aP).data)).1)].map af)∧((aq (qh p s data) j).length + ([(s.mems.getD j []).set ((Int.tmod ((be p s data ((p.mems.getD j aP).addr)).1) ((p.mems.getD j aP).words)).toNat) ((be p s data ((p.mems.getD j aP).data)).1)].map af).length ≤ 137438953472∧(aq (qh p s data) j).map af ++ [(s.mems.getD j []).set ((Int.tmod ((be p s data ((p.mems.getD j aP).addr)).1) ((p.mems.getD j aP).words)).toNat) ((be p s data ((p.mems.getD j aP).data)).1)].map af = (aq (qh p s data) (j + 1)).map af)∧TT 3 (W6 ((j + 1 : Nat) : Int)∧TT 1 (AG (lW p s data i) j (j + 1))))))))) (TT 3 (ap [[(LI (s.mems.getD j []))]] ([s.mems.getD j []].map af)∧((aq (qh p s data) j).length + ([s.mems.getD j []].map af).length ≤ 137438953472∧(aq (qh p s data) j).map af ++ [s.mems.getD j []].map af = (aq (qh p s data) (j + 1)).map af)∧TT 3 (W6 ((j + 1 : Nat) : Int)∧TT 1 (AG (lW p s data i) j (j + 1))))))))))) (TT 3 ((aq (fun z => (be p s data (p.regs.getD z bH).next).1) i).map (ah .i64) = ((ci p s data).regs).map (ah .i64)∧(aq (qh p s data) j).map af = ((ci p s data).mems).map af∧True)))))))))) (.g 2 2 0 3 1 (ah .i64) 0 <| .l (p4 p s data) 0 (fun i => .b 14 (.w 5 [(10,(yA p s data 2 ((p.regs.getD i bH).next)).O),(12,.box 3 1 (ah .i64) 0 [(be p s data ((p.regs.getD i bH).next)).1]),(13,.box 3 1 (ah .i64) 0 (aq (fun z => (be p s data (p.regs.getD z bH).next).1) (i + 1)))] <| .w 4 [(1,.val (i6 ((i + 1 : Nat) : Int)))] <| .e) (.g 6 2 1 43 1 af [] <| .l (lW p s data i) 0 (fun j => .b 37 (.w 10 [(0,.box 3 1 (ah .i64) 0 ([] : List Int)),(7,.box 3 1 (ah .i64) 0 (s.mems.getD j []))] <| .w 11 [(3,(Ak p s data ((p.mems.getD j aP).enable)).O)] <| .b 57 (.w 12 [(4,(yA p s data 2 ((p.mems.getD j aP).addr)).O),(12,(yA p s data 2 ((p.mems.getD j aP).data)).O),(15,.box 3 1 (ah .i64) 0 ((s.mems.getD j []).set ((Int.tmod ((be p s data ((p.mems.getD j aP).addr)).1) ((p.mems.getD j aP).words)).toNat) ((be p s data ((p.mems.getD j aP).data)).1)))] <| .f 13 6 <| .w 13 [(3,.box 43 1 af [] [(s.mems.getD j []).set ((Int.tmod ((be p s data ((p.mems.getD j aP).addr)).1) ((p.mems.getD j aP).words)).toNat) ((be p s data ((p.mems.getD j aP).data)).1)]),(4,.box 43 1 af [] (aq (qh p s data) (j + 1)))] <| .w 8 [(1,.val (i6 ((j + 1 : Nat) : Int)))] <| .e) (.f 13 6 <| .w 13 [(3,.box 43 1 af [] [s.mems.getD j []]),(4,.box 43 1 af [] (aq (qh p s data) (j + 1)))] <| .w 8 [(1,.val (i6 ((j + 1 : Nat) : Int)))] <| .e)) (.e))))) Tryz.func76 rfl rfl rfl (by kernel_rfl) ?_
 refine tt ⟨rfl,(by omega),?_⟩
 intro i hinv
 have hi := hinv
 refine tt (cd (fun hc14 => ?_) (fun hc14 => ?_))
 · have hrn := hp.rw i (by omega)
   refine tt ⟨ix,tt ⟨(jK ho hmw 2 ((p.regs.getD i bH).next) _ hrn.2.2.1 hrn.2.2.2),tt ⟨⟨⟨rfl,oK⟩,oK⟩,⟨(f8 (f := fun z => (be p s data (p.regs.getD z bH).next).1) (by omega)),tt ⟨w6,tt ⟨(i + 1),rfl,(?_ : (i + 1) ≤ p.regs.length),(?_ : p.regs.length - (i + 1) < p.regs.length - i)⟩⟩⟩⟩⟩⟩
   · omega
   · omega
 · refine tt ⟨rfl,(by omega),?_⟩
   intro j hinv
   have hj := hinv
   refine tt (cd (fun hc37 => ?_) (fun hc37 => ?_))
   · have hmz : 1 ≤ (p.mems.getD j aP).words∧(p.mems.getD j aP).words ≤ 4 := (hp.mw j (by omega)).2.1
     have hml : ((s.mems.getD j []).length : Int) = (p.mems.getD j aP).words := hso.mn j (by omega)
     have hme := (hp.mw j (by omega)).2.2.1
     have hmb := (hp.mw j (by omega)).2.2.2
     obtain ⟨va,hma⟩ := hmb.1.1
     have had : 0 ≤ Int.tmod (be p s data (p.mems.getD j aP).addr).1 (p.mems.getD j aP).words∧Int.tmod (be p s data (p.mems.getD j aP).addr).1 (p.mems.getD j aP).words < (s.mems.getD j []).length∧(p.mems.getD j aP).words ≠ 0 := Bm hp hso hda (show j < p.mems.length by omega)
     refine tt ⟨ix,tt ⟨oK,tt ⟨ix,tt ⟨⟨by simp only [List.length_map,List.length_nil]; omega,by simp⟩,tt ⟨(tI p s data ((p.mems.getD j aP).enable) ho hmw hme.1 hme.2),⟨fun hc57 => ?_,fun hc57 => ?_⟩⟩⟩⟩⟩⟩
     · refine tt ⟨(jK ho hmw 2 ((p.mems.getD j aP).addr) _ hma hmb.1.2),tt ⟨om,tt ⟨(jK ho hmw 2 ((p.mems.getD j aP).data) _ hmb.2.1 hmb.2.2),tt ⟨ix,⟨⟨om,by simp only [List.map_set]; rfl⟩,tt ⟨⟨⟨rfl,oK⟩,oK⟩,⟨(bz (by omega) (by first | exact wy hc57 | exact Bl (by rw [hc57]; simp))),tt ⟨w6,tt ⟨(j + 1),rfl,(?_ : (j + 1) ≤ p.mems.length),(?_ : p.mems.length - (j + 1) < p.mems.length - j)⟩⟩⟩⟩⟩⟩⟩⟩⟩
       · omega
       · omega
     · refine tt ⟨⟨⟨rfl,oK⟩,oK⟩,⟨(bz (by omega) (by first | exact wy hc57 | exact Bl (by rw [hc57]; simp))),tt ⟨w6,tt ⟨(j + 1),rfl,(?_ : (j + 1) ≤ p.mems.length),(?_ : p.mems.length - (j + 1) < p.mems.length - j)⟩⟩⟩⟩
       · omega
       · omega
   · refine tt ⟨(congrArg _ (?_ : (aq (fun z => (be p s data (p.regs.getD z bH).next).1) i) = ((ci p s data).regs))),(congrArg _ (?_ : (aq (qh p s data) j) = ((ci p s data).mems))),oK⟩
     · rw [show i = p.regs.length by omega]; rfl
     · rw [show j = p.mems.length by omega]; rfl
abbrev KM (p : Pr) (s : Ps) (hs : List Hd) (rs : List Bool) : Ct := ⟨50,[(BG p),(.agg (lV s)),(.agg [(dL 2 bp aK hs),(LB rs)])],true,(.agg [(dB ((aU p s hs rs).fires)),(LI (((aU p s hs rs).s).regs)),(dL 1 af [] (((aU p s hs rs).s).mems)),(LB ((aU p s hs rs).pops)),(dL 2 bp aK ((aU p s hs rs).puts))])⟩
abbrev ic (p : Pr) (s : Ps) (hs : List Hd) (rs : List Bool) : Lp (Nat × Bool) := rM [3,5,6,7,8,9] 16 (fun (i : Nat) (fir : Bool) => ⟨[(3,jf),(5,(.ptr 2 0 0 0)),(6,(.ptr 3 0 0 0)),(7,(.ptr 4 0 0 0)),(8,(.ptr 15 0 0 0)),(9,(i6 (i : Int)))],[(ny p),(.var 45 (lV s)),(.var 121 [(dL 2 bp aK hs),(LB rs)]),BH,(BF p s hs),.dead,.dead,.dead,.dead,(.arr 4 1 aJ false (List.replicate p.takes.length false)),.dead,.dead,.dead,(.arr 68 2 bp aK (List.replicate p.puts.length aK)),.dead,(.var 48 [(dB fir),(LI s.regs),(dL 1 af [] s.mems),(.own 9),(.own 13)])]⟩) (fun (i : Nat) (fir : Bool) => i ≤ p.takes.length∧fir = dh (iW p s hs) i) (fun (i : Nat) (fir : Bool) => p.takes.length - i)
abbrev ie (p : Pr) (s : Ps) (hs : List Hd) (rs : List Bool) (fir : Bool) : Lp (Nat × Bool) := rM [3,5,6,7,8,10] 16 (fun (m : Nat) (fi2 : Bool) => ⟨[(3,jf),(5,(.ptr 2 0 0 0)),(6,(.ptr 3 0 0 0)),(7,(.ptr 4 0 0 0)),(8,(.ptr 15 0 0 0)),(10,(i6 (m : Int)))],[(ny p),(.var 45 (lV s)),(.var 121 [(dL 2 bp aK hs),(LB rs)]),BH,(BF p s hs),.dead,.dead,.dead,.dead,(.arr 4 1 aJ false (List.replicate p.takes.length false)),.dead,.dead,.dead,(.arr 68 2 bp aK (List.replicate p.puts.length aK)),.dead,(.var 48 [(dB fi2),(LI s.regs),(dL 1 af [] s.mems),(.own 9),(.own 13)])]⟩) (fun (m : Nat) (fi2 : Bool) => m ≤ p.puts.length∧fi2 = (fir && dh (kd p s hs rs) m)) (fun (m : Nat) (fi2 : Bool) => p.puts.length - m)
abbrev mQ (p : Pr) (s : Ps) (hs : List Hd) (rs : List Bool) (fi2 : Bool) : Lp (Nat × List Bool) := rM [3,6,7,8,11] 16 (fun (q : Nat) (pop : List Bool) => ⟨[(3,jf),(6,(.ptr 3 0 0 0)),(7,(.ptr 4 0 0 0)),(8,(.ptr 15 0 0 0)),(11,(i6 (q : Int)))],[(ny p),(.var 45 (lV s)),(.var 121 [(dL 2 bp aK hs),(LB rs)]),BH,(BF p s hs),.dead,.dead,.dead,.dead,(.arr 4 1 aJ false pop),.dead,.dead,.dead,(.arr 68 2 bp aK (List.replicate p.puts.length aK)),.dead,(.var 48 [(dB fi2),(LI ((ci p s (bW p s hs)).regs)),(dL 1 af [] ((ci p s (bW p s hs)).mems)),(.own 9),(.own 13)])]⟩) (fun (q : Nat) (pop : List Bool) => q ≤ p.takes.length∧pop = b8 (pz p s hs) (List.replicate p.takes.length false) q) (fun (q : Nat) (pop : List Bool) => p.takes.length - q)
abbrev jL (p : Pr) (s : Ps) (hs : List Hd) (rs : List Bool) (fi2 : Bool) (pop : List Bool) : Lp (Nat × List Hd) := rM [3,6,7,8,12] 16 (fun (t : Nat) (put : List Hd) => ⟨[(3,jf),(6,(.ptr 3 0 0 0)),(7,(.ptr 4 0 0 0)),(8,(.ptr 15 0 0 0)),(12,(i6 (t : Int)))],[(ny p),(.var 45 (lV s)),(.var 121 [(dL 2 bp aK hs),(LB rs)]),BH,(BF p s hs),.dead,.dead,.dead,.dead,(.arr 4 1 aJ false pop),.dead,.dead,.dead,(.arr 68 2 bp aK put),.dead,(.var 48 [(dB fi2),(LI ((ci p s (bW p s hs)).regs)),(dL 1 af [] ((ci p s (bW p s hs)).mems)),(.own 9),(.own 13)])]⟩) (fun (t : Nat) (put : List Hd) => t ≤ p.puts.length∧put = b8 (pA p s hs) (List.replicate p.puts.length aK) t) (fun (t : Nat) (put : List Hd) => p.puts.length - t)
theorem C0 (p : Pr) (s : Ps) (hs : List Hd) (rs : List Bool) (hp : fM p) (hso : oa p s) (hh : xZ p hs) (hrs : rs.length = p.puts.length) : CC (KM p s hs rs) := by
 have ht1 := hp.tl
 have ht2 := hp.pl
 have hhl := hh.l
 have hmw := hso.mn
 have ho := gm hp hso (tj (s := s) (hs := hs) hp hh)
 have hda := tj (s := s) (hs := hs) hp hh
 refine ai.vc (V := TT 7 (CC (KK p s hs rs)∧TT 6 ((((0 : Int) ≤ (p.takes.length : Int)∧(p.takes.length : Int) ≤ (p.takes.length : Int)∧(p.takes.length : Int) ≤ 137438953472)∧(List.replicate p.takes.length false).length = p.takes.length∧∀ x ∈ (List.replicate p.takes.length false),cz [(dB false)] (aJ x))∧TT 3 ((((0 : Int) ≤ (p.puts.length : Int)∧(p.puts.length : Int) ≤ (p.puts.length : Int)∧(p.puts.length : Int) ≤ 137438953472)∧(List.replicate p.puts.length aK).length = p.puts.length∧∀ x ∈ (List.replicate p.puts.length aK),cz [(dB false),(i6 0)] (bp x))∧TT 4 (GO (ic p s hs rs) (0,true) (∀ i fir,(ic p s hs rs).inv (i,fir) → TT 5 (CD ((i : Int) < (p.takes.length : Int)) (CS (fir = true) (CS (((hs.getD i aK).has) = true) (TT 2 ((True∧fir = true)∧TT 3 (IX (i : Int) hs.length∧TT 2 ((True∧((hs.getD i aK).has) = true)∧TT 5 (W6 ((i + 1 : Nat) : Int)∧TT 1 (AG (ic p s hs rs) (i,fir) (i + 1,true))))))) (TT 2 ((True∧fir = true)∧TT 3 (IX (i : Int) hs.length∧TT 2 ((True∧((hs.getD i aK).has) = false)∧TT 4 (IX (i : Int) p.takes.length∧TT 2 (CC (Ak p s (bW p s hs) ((p.takes.getD i bo).when))∧TT 6 (W6 ((i + 1 : Nat) : Int)∧TT 1 (AG (ic p s hs rs) (i,fir) (i + 1,!(dY p s (bW p s hs) ((p.takes.getD i bo).when)))))))))))) (TT 2 ((True∧fir = false)∧TT 4 (W6 ((i + 1 : Nat) : Int)∧TT 1 (AG (ic p s hs rs) (i,fir) (i + 1,false)))))) (TT 1 (GO (ie p s hs rs fir) (0,fir) (∀ m fi2,(ie p s hs rs fir).inv (m,fi2) → TT 5 (CD ((m : Int) < (p.puts.length : Int)) (CS (fi2 = true) (CS ((rs.getD m false) = true) (TT 2 ((True∧fi2 = true)∧TT 3 (IX (m : Int) rs.length∧TT 1 ((True∧(rs.getD m false) = true)∧TT 5 (W6 ((m + 1 : Nat) : Int)∧TT 1 (AG (ie p s hs rs fir) (m,fi2) (m + 1,true))))))) (TT 2 ((True∧fi2 = true)∧TT 3 (IX (m : Int) rs.length∧TT 1 ((True∧(rs.getD m false) = false)∧TT 4 (IX (m : Int) p.puts.length∧TT 2 (CC (Ak p s (bW p s hs) ((p.puts.getD m a6).when))∧TT 6 (W6 ((m + 1 : Nat) : Int)∧TT 1 (AG (ie p s hs rs fir) (m,fi2) (m + 1,!(dY p s (bW p s hs) ((p.puts.getD m a6).when)))))))))))) (TT 2 ((True∧fi2 = false)∧TT 4 (W6 ((m + 1 : Nat) : Int)∧TT 1 (AG (ie p s hs rs fir) (m,fi2) (m + 1,false)))))) (TT 3 (CB (!fi2) (TT 3 (fi2 = ((aU p s hs rs).fires)∧s.regs.map (ah .i64) = (((aU p s hs rs).s).regs).map (ah .i64)∧s.mems.map af = (((aU p s hs rs).s).mems).map af∧(List.replicate p.takes.length false).map aJ = ((aU p s hs rs).pops).map aJ∧(List.replicate p.puts.length aK).map bp = ((aU p s hs rs).puts).map bp∧True)) (TT 1 (CC (KL p s (bW p s hs))∧TT 3 (GO (mQ p s hs rs fi2) (0,List.replicate p.takes.length false) (∀ q pop,(mQ p s hs rs fi2).inv (q,pop) → TT 5 (CD ((q : Int) < (p.takes.length : Int)) (TT 7 (IX (q : Int) p.takes.length∧TT 2 (CC (Ak p s (bW p s hs) ((p.takes.getD q bo).when))∧IX (q : Int) pop.length∧(q < pop.length∧(pop.map aJ).set q ((aJ (pop.getD q false)).take 0 ++ [(.bool (dY p s (bW p s hs) ((p.takes.getD q bo).when)))] ++ (aJ (pop.getD q false)).drop (0 + 1)) = (pop.set q (dY p s (bW p s hs) ((p.takes.getD q bo).when))).map aJ)∧TT 1 (W6 ((q + 1 : Nat) : Int)∧TT 1 (AG (mQ p s hs rs fi2) (q,pop) (q + 1,pop.set q (dY p s (bW p s hs) ((p.takes.getD q bo).when)))))))) (TT 1 (GO (jL p s hs rs fi2 pop) (0,List.replicate p.puts.length aK) (∀ t put,(jL p s hs rs fi2 pop).inv (t,put) → TT 5 (CD ((t : Int) < (p.puts.length : Int)) (TT 4 (IX (t : Int) p.puts.length∧TT 2 (CC (Ak p s (bW p s hs) ((p.puts.getD t a6).when))∧CB (dY p s (bW p s hs) ((p.puts.getD t a6).when)) (TT 7 (IX (t : Int) p.puts.length∧TT 2 (CC (yA p s (bW p s hs) 2 ((p.puts.getD t a6).data))∧TT 2 (IX (t : Int) put.length∧(t < put.length∧(put.map bp).set t ((bp (put.getD t aK)).take 0 ++ [(.bool true),(.int .i64 ((be p s (bW p s hs) ((p.puts.getD t a6).data)).1))] ++ (bp (put.getD t aK)).drop (0 + 2)) = (put.set t (⟨true,(be p s (bW p s hs) ((p.puts.getD t a6).data)).1⟩ : Hd)).map bp)∧TT 1 (W6 ((t + 1 : Nat) : Int)∧TT 1 (AG (jL p s hs rs fi2 pop) (t,put) (t + 1,put.set t (⟨true,(be p s (bW p s hs) ((p.puts.getD t a6).data)).1⟩ : Hd)))))))) (TT 1 (W6 ((t + 1 : Nat) : Int)∧TT 1 (AG (jL p s hs rs fi2 pop) (t,put) (t + 1,put))))))) (TT 3 (fi2 = ((aU p s hs rs).fires)∧((ci p s (bW p s hs)).regs).map (ah .i64) = (((aU p s hs rs).s).regs).map (ah .i64)∧((ci p s (bW p s hs)).mems).map af = (((aU p s hs rs).s).mems).map af∧pop.map aJ = ((aU p s hs rs).pops).map aJ∧put.map bp = ((aU p s hs rs).puts).map bp∧True)))))))))))))))))))))))) (.w 1 [(3,(KK p s hs rs).O)] <| .w 2 [(4,.box 4 1 aJ false (List.replicate p.takes.length false)),(8,.box 68 2 bp aK (List.replicate p.puts.length aK))] <| .l (ic p s hs rs) (0,true) (fun ⟨i,fir⟩ => .b 31 (.s 6 (fir = true) (.s 6 (((hs.getD i aK).has) = true) (.w 6 [(2,.val (dB true)),(9,.val (dB true))] <| .w 5 [(1,.val (i6 ((i + 1 : Nat) : Int)))] <| .e) (.w 6 [(2,.val (dB true)),(9,.val (dB false)),(17,(Ak p s (bW p s hs) ((p.takes.getD i bo).when)).O)] <| .w 5 [(1,.val (i6 ((i + 1 : Nat) : Int)))] <| .e)) (.w 6 [(2,.val (dB false))] <| .w 5 [(1,.val (i6 ((i + 1 : Nat) : Int)))] <| .e)) (.l (ie p s hs rs fir) (0,fir) (fun ⟨m,fi2⟩ => .b 60 (.s 10 (fi2 = true) (.s 10 ((rs.getD m false) = true) (.w 10 [(2,.val (dB true)),(8,.val (dB true))] <| .w 9 [(1,.val (i6 ((m + 1 : Nat) : Int)))] <| .e) (.w 10 [(2,.val (dB true)),(8,.val (dB false)),(16,(Ak p s (bW p s hs) ((p.puts.getD m a6).when)).O)] <| .w 9 [(1,.val (i6 ((m + 1 : Nat) : Int)))] <| .e)) (.w 10 [(2,.val (dB false))] <| .w 9 [(1,.val (i6 ((m + 1 : Nat) : Int)))] <| .e)) (.b 86 (.e) (.w 13 [(1,(KL p s (bW p s hs)).O)] <| .l (mQ p s hs rs fi2) (0,List.replicate p.takes.length false) (fun ⟨q,pop⟩ => .b 95 (.w 17 [(10,(Ak p s (bW p s hs) ((p.takes.getD q bo).when)).O),(12,.box 4 1 aJ false (pop.set q (dY p s (bW p s hs) ((p.takes.getD q bo).when))))] <| .w 16 [(1,.val (i6 ((q + 1 : Nat) : Int)))] <| .e) (.l (jL p s hs rs fi2 pop) (0,List.replicate p.puts.length aK) (fun ⟨t,put⟩ => .b 114 (.w 21 [(7,(Ak p s (bW p s hs) ((p.puts.getD t a6).when)).O)] <| .b 124 (.w 22 [(10,(yA p s (bW p s hs) 2 ((p.puts.getD t a6).data)).O),(14,.box 68 2 bp aK (put.set t (⟨true,(be p s (bW p s hs) ((p.puts.getD t a6).data)).1⟩ : Hd)))] <| .w 20 [(1,.val (i6 ((t + 1 : Nat) : Int)))] <| .e) (.w 20 [(1,.val (i6 ((t + 1 : Nat) : Int)))] <| .e)) (.e)))))))))) Tryz.func50 rfl rfl rfl (by kernel_rfl) ?_
 refine tt ⟨(Al p s hs rs hp hso hh),tt ⟨⟨by omega,List.length_replicate,fun x hx => by rw [List.eq_of_mem_replicate hx]; exact ⟨rfl,oK⟩⟩,tt ⟨⟨by omega,List.length_replicate,fun x hx => by rw [List.eq_of_mem_replicate hx]; exact ⟨rfl,rfl,oK⟩⟩,tt ⟨rfl,⟨by omega,rfl⟩,?_⟩⟩⟩⟩
 intro i fir hinv
 obtain ⟨hi,hfir⟩ := hinv
 refine tt (cd (fun hc31 => ?_) (fun hc31 => ?_))
 · have hwh := se hp (show i < p.takes.length by omega)
   refine ⟨fun hs0 => ?_,fun hs0 => ?_⟩
   · refine ⟨fun hs1 => ?_,fun hs1 => ?_⟩
     · refine tt ⟨(bT hs0),tt ⟨ix,tt ⟨(bT hs1),tt ⟨w6,tt ⟨(i + 1,true),rfl,?_,(?_ : p.takes.length - (i + 1) < p.takes.length - i)⟩⟩⟩⟩⟩
       · exact ⟨by omega,lI hfir _ (by unfold iW; clear hfir; cases fir <;> simp_all)⟩
       · omega
     · refine tt ⟨(bT hs0),tt ⟨ix,tt ⟨(bF hs1),tt ⟨ix,tt ⟨(tI p s (bW p s hs) ((p.takes.getD i bo).when) ho hmw hwh.1 hwh.2),tt ⟨w6,tt ⟨(i + 1,!(dY p s (bW p s hs) ((p.takes.getD i bo).when))),rfl,?_,(?_ : p.takes.length - (i + 1) < p.takes.length - i)⟩⟩⟩⟩⟩⟩⟩
       · exact ⟨by omega,lI hfir _ (by unfold iW; clear hfir; cases fir <;> simp_all)⟩
       · omega
   · refine tt ⟨(bF hs0),tt ⟨w6,tt ⟨(i + 1,false),rfl,?_,(?_ : p.takes.length - (i + 1) < p.takes.length - i)⟩⟩⟩
     · exact ⟨by omega,lI hfir _ (by unfold iW; clear hfir; cases fir <;> simp_all)⟩
     · omega
 · refine tt ⟨rfl,⟨by omega,by simp [dh]⟩,?_⟩
   intro m fi2 hinv
   obtain ⟨hm,hfi2⟩ := hinv
   refine tt (cd (fun hc60 => ?_) (fun hc60 => ?_))
   · have hpw := hp.pw m (by omega)
     refine ⟨fun hs2 => ?_,fun hs2 => ?_⟩
     · refine ⟨fun hs3 => ?_,fun hs3 => ?_⟩
       · refine tt ⟨(bT hs2),tt ⟨ix,tt ⟨(bT hs3),tt ⟨w6,tt ⟨(m + 1,true),rfl,?_,(?_ : p.puts.length - (m + 1) < p.puts.length - m)⟩⟩⟩⟩⟩
         · exact ⟨by omega,qQ hfi2 _ (by unfold kd; clear hfi2 hfir; cases fi2 <;> simp_all)⟩
         · omega
       · refine tt ⟨(bT hs2),tt ⟨ix,tt ⟨(bF hs3),tt ⟨ix,tt ⟨(tI p s (bW p s hs) ((p.puts.getD m a6).when) ho hmw hpw.2.1.1 hpw.2.1.2),tt ⟨w6,tt ⟨(m + 1,!(dY p s (bW p s hs) ((p.puts.getD m a6).when))),rfl,?_,(?_ : p.puts.length - (m + 1) < p.puts.length - m)⟩⟩⟩⟩⟩⟩⟩
         · exact ⟨by omega,qQ hfi2 _ (by unfold kd; clear hfi2 hfir; cases fi2 <;> simp_all)⟩
         · omega
     · refine tt ⟨(bF hs2),tt ⟨w6,tt ⟨(m + 1,false),rfl,?_,(?_ : p.puts.length - (m + 1) < p.puts.length - m)⟩⟩⟩
       · exact ⟨by omega,qQ hfi2 _ (by unfold kd; clear hfi2 hfir; cases fi2 <;> simp_all)⟩
       · omega
   · have hie : i = p.takes.length := by omega
     have hme : m = p.puts.length := by omega
     refine tt ⟨fun hc86 => ?_,fun hc86 => ?_⟩
     · refine tt ⟨?_,(congrArg _ (?_ : s.regs = (((aU p s hs rs).s).regs))),(congrArg _ (?_ : s.mems = (((aU p s hs rs).s).mems))),(congrArg _ (?_ : (List.replicate p.takes.length false) = ((aU p s hs rs).pops))),(congrArg _ (?_ : (List.replicate p.puts.length aK) = ((aU p s hs rs).puts))),oK⟩
       all_goals
         rw [Bg (by rw [mm (rs := rs) (a := fir) (b := fi2) (by rw [hfir,hie]) (by rw [hfi2,hme])]; simpa using hc86)]
         first | done | rfl | simpa using hc86
     · refine tt ⟨(Fa p s (bW p s hs) hp hso hda),tt ⟨rfl,⟨by omega,rfl⟩,?_⟩⟩
       intro q pop hinv
       obtain ⟨hq,hpop⟩ := hinv
       have hpl : pop.length = p.takes.length := by rw [hpop,c6 (by rw [List.length_replicate]; exact hq),List.length_replicate]
       refine tt (cd (fun hc95 => ?_) (fun hc95 => ?_))
       · have hwh := se hp (show q < p.takes.length by omega)
         refine tt ⟨ix,tt ⟨(tI p s (bW p s hs) ((p.takes.getD q bo).when) ho hmw hwh.1 hwh.2),⟨ix,⟨⟨om,by simp only [List.map_set]; rfl⟩,tt ⟨w6,tt ⟨(q + 1,pop.set q (dY p s (bW p s hs) ((p.takes.getD q bo).when))),rfl,?_,(?_ : p.takes.length - (q + 1) < p.takes.length - q)⟩⟩⟩⟩⟩⟩
         · exact ⟨by omega,by rw [hpop]; exact bL (by rw [List.length_replicate]; omega) rfl⟩
         · omega
       · refine tt ⟨rfl,⟨by omega,rfl⟩,?_⟩
         intro t put hinv
         obtain ⟨ht,hput⟩ := hinv
         have hql : put.length = p.puts.length := by rw [hput,c6 (by rw [List.length_replicate]; exact ht),List.length_replicate]
         refine tt (cd (fun hc114 => ?_) (fun hc114 => ?_))
         · have hpw := hp.pw t (by omega)
           refine tt ⟨ix,tt ⟨(tI p s (bW p s hs) ((p.puts.getD t a6).when) ho hmw hpw.2.1.1 hpw.2.1.2),⟨fun hc124 => ?_,fun hc124 => ?_⟩⟩⟩
           · refine tt ⟨ix,tt ⟨(jK ho hmw 2 ((p.puts.getD t a6).data) _ hpw.2.2.1 hpw.2.2.2),tt ⟨ix,⟨⟨om,by simp only [List.map_set]; rfl⟩,tt ⟨w6,tt ⟨(t + 1,put.set t (⟨true,(be p s (bW p s hs) ((p.puts.getD t a6).data)).1⟩ : Hd)),rfl,?_,(?_ : p.puts.length - (t + 1) < p.puts.length - t)⟩⟩⟩⟩⟩⟩
             · exact ⟨by omega,by rw [hput]; exact bL (by rw [List.length_replicate]; omega) (if_pos hc124)⟩
             · omega
           · refine tt ⟨w6,tt ⟨(t + 1,put),rfl,?_,(?_ : p.puts.length - (t + 1) < p.puts.length - t)⟩⟩
             · exact ⟨by omega,by rw [hput]; exact bD (d := aK) (by rw [List.length_replicate]; omega) ((if_neg (by rw [hc124]; simp)).trans bM.symm)⟩
             · omega
         · refine tt ⟨?_,(congrArg _ (?_ : ((ci p s (bW p s hs)).regs) = (((aU p s hs rs).s).regs))),(congrArg _ (?_ : ((ci p s (bW p s hs)).mems) = (((aU p s hs rs).s).mems))),(congrArg _ (?_ : pop = ((aU p s hs rs).pops))),(congrArg _ (?_ : put = ((aU p s hs rs).puts))),oK⟩
           all_goals
             rw [wx (by rw [mm (rs := rs) (a := fir) (b := fi2) (by rw [hfir,hie]) (by rw [hfi2,hme])]; simpa using hc86)]
             first | done | (simpa using hc86) | (rw [hpop,show q = p.takes.length by omega,cG (by rw [List.length_replicate]; exact Nat.le_refl _)]) | (rw [hput,show t = p.puts.length by omega,cG (by rw [List.length_replicate]; exact Nat.le_refl _)])
abbrev tJ (a b : List Int) : Ct := ⟨18,[(LI a),(LI b)],false,(dB (decide (a = b)))⟩
abbrev sn (a : List Int) (b : List Int) : Lp (Nat) := fC [0,1,5] 0 (fun (k : Nat) => ⟨[(0,(LI a)),(1,(LI b)),(5,(i6 (k : Int)))],[]⟩) (fun (k : Nat) => k ≤ a.length∧∀ z,z < k → a.getD z 0 = b.getD z 0) (fun (k : Nat) => a.length - k)
theorem fy (a b : List Int) (ha : a.length ≤ 9223372036854775807) : CC (tJ a b) := by
 refine ai.vc (V := TT 6 (CN ((a.length : Int) = (b.length : Int)) (TT 2 (false = (decide (a = b))∧True)) (TT 1 (GO (sn a b) 0 (∀ k,(sn a b).inv k → TT 4 (CD ((k : Int) < (a.length : Int)) (TT 2 (IX (k : Int) a.length∧TT 3 (IX (k : Int) b.length∧TT 2 (CN ((a.getD k 0) = (b.getD k 0)) (TT 2 (false = (decide (a = b))∧True)) (TT 1 (W6 ((k + 1 : Nat) : Int)∧TT 1 (AG (sn a b) k (k + 1)))))))) (TT 2 (true = (decide (a = b))∧True)))))))) (.b 10 (.e) (.l (sn a b) 0 (fun k => .b 14 (.b 25 (.e) (.w 5 [(1,.val (i6 ((k + 1 : Nat) : Int)))] <| .e)) (.e)))) Tryz.func18 rfl rfl rfl (by kernel_rfl) ?_
 refine tt (cn (fun hc10 => ?_) (fun hc10 => ?_))
 · refine tt ⟨?_,oK⟩
   first | exact (decide_eq_false (fun e => by subst e; omega)).symm | exact (decide_eq_false (same_no (k := k) (by simpa using hc25))).symm | exact (decide_eq_true (dM (by omega) (by omega) hall)).symm
 · refine tt ⟨rfl,⟨by omega,fun z hz => by omega⟩,?_⟩
   intro k hinv
   obtain ⟨hk,hall⟩ := hinv
   refine tt (cd (fun hc14 => ?_) (fun hc14 => ?_))
   · refine tt ⟨ix,tt ⟨ix,tt (cn (fun hc25 => ?_) (fun hc25 => ?_))⟩⟩
     · refine tt ⟨?_,oK⟩
       first | exact (decide_eq_false (fun e => by subst e; omega)).symm | exact (decide_eq_false (same_no (k := k) (by simpa using hc25))).symm | exact (decide_eq_true (dM (by omega) (by omega) hall)).symm
     · refine tt ⟨w6,tt ⟨(k + 1),rfl,?_,(?_ : a.length - (k + 1) < a.length - k)⟩⟩
       · exact ⟨by omega,bZ hall (by simpa using hc25)⟩
       · omega
   · refine tt ⟨?_,oK⟩
     first | exact (decide_eq_false (fun e => by subst e; omega)).symm | exact (decide_eq_false (same_no (k := k) (by simpa using hc25))).symm | exact (decide_eq_true (dM (by omega) (by omega) hall)).symm
abbrev KN (a b : Ps) : Ct := ⟨17,[(.agg [(LI a.regs),(dL 1 af [] a.mems)]),(.agg [(LI b.regs),(dL 1 af [] b.mems)])],false,(dB (dR a b))⟩
abbrev mR (a : Ps) (b : Ps) : Lp (Nat) := fC [2,3,5] 2 (fun (k : Nat) => ⟨[(2,jf),(3,(.ptr 1 0 0 0)),(5,(i6 (k : Int)))],[(.var 45 [(LI a.regs),(dL 1 af [] a.mems)]),(.var 45 [(LI b.regs),(dL 1 af [] b.mems)])]⟩) (fun (k : Nat) => k ≤ a.mems.length∧∀ z,z < k → a.mems.getD z [] = b.mems.getD z []) (fun (k : Nat) => a.mems.length - k)
theorem C2 (a b : Ps) (ha : a.regs.length ≤ 9223372036854775807) (hb : a.mems.length ≤ 9223372036854775807) (hc : ∀ i,(a.mems.getD i []).length ≤ 9223372036854775807) : CC (KN a b) := by
 refine ai.vc (V := TT 3 (CS (a.regs = b.regs) (TT 4 (CC (tJ a.regs b.regs)∧TT 1 ((True∧(!decide (a.regs = b.regs)) = false)∧TT 8 (CN ((a.mems.length : Int) = (b.mems.length : Int)) (TT 2 (false = (dR a b)∧True)) (TT 1 (GO (mR a b) 0 (∀ k,(mR a b).inv k → TT 5 (CD ((k : Int) < (a.mems.length : Int)) (TT 3 (IX (k : Int) a.mems.length∧TT 4 (IX (k : Int) b.mems.length∧TT 1 (CC (tJ (a.mems.getD k []) (b.mems.getD k []))∧TT 1 (CN ((a.mems.getD k []) = (b.mems.getD k [])) (TT 2 (false = (dR a b)∧True)) (TT 1 (W6 ((k + 1 : Nat) : Int)∧TT 1 (AG (mR a b) k (k + 1))))))))) (TT 2 (true = (dR a b)∧True)))))))))) (TT 4 (CC (tJ a.regs b.regs)∧TT 1 ((True∧(!decide (a.regs = b.regs)) = true)∧TT 10 (false = (dR a b)∧True)))))) (.s 1 (a.regs = b.regs) (.w 1 [(4,(tJ a.regs b.regs).O),(6,.val (dB false))] <| .b 20 (.e) (.l (mR a b) 0 (fun k => .b 25 (.w 6 [(10,(tJ (a.mems.getD k []) (b.mems.getD k [])).O)] <| .b 39 (.e) (.w 5 [(1,.val (i6 ((k + 1 : Nat) : Int)))] <| .e)) (.e)))) (.w 1 [(4,(tJ a.regs b.regs).O),(6,.val (dB true))] <| .e)) Tryz.func17 rfl rfl rfl (by kernel_rfl) ?_
 refine tt ⟨fun hs0 => ?_,fun hs0 => ?_⟩
 · refine tt ⟨(fy a.regs b.regs ha),tt ⟨(nF hs0),tt (cn (fun hc20 => ?_) (fun hc20 => ?_))⟩⟩
   · refine tt ⟨?_,oK⟩
     first | exact (ke (by simpa using hs0)).symm | exact (kf (by omega)).symm | exact (kg (i := k) (by simpa using hc39)).symm | exact (kh (by simpa using hs0) (dM (by omega) (by omega) hall)).symm
   · refine tt ⟨rfl,⟨by omega,fun z hz => by omega⟩,?_⟩
     intro k hinv
     obtain ⟨hk,hall⟩ := hinv
     refine tt (cd (fun hc25 => ?_) (fun hc25 => ?_))
     · refine tt ⟨ix,tt ⟨ix,tt ⟨(fy (a.mems.getD k []) (b.mems.getD k []) (hc k)),tt (cn (fun hc39 => ?_) (fun hc39 => ?_))⟩⟩⟩
       · refine tt ⟨?_,oK⟩
         first | exact (ke (by simpa using hs0)).symm | exact (kf (by omega)).symm | exact (kg (i := k) (by simpa using hc39)).symm | exact (kh (by simpa using hs0) (dM (by omega) (by omega) hall)).symm
       · refine tt ⟨w6,tt ⟨(k + 1),rfl,?_,(?_ : a.mems.length - (k + 1) < a.mems.length - k)⟩⟩
         · exact ⟨by omega,bZ hall (by simpa using hc39)⟩
         · omega
     · refine tt ⟨?_,oK⟩
       first | exact (ke (by simpa using hs0)).symm | exact (kf (by omega)).symm | exact (kg (i := k) (by simpa using hc39)).symm | exact (kh (by simpa using hs0) (dM (by omega) (by omega) hall)).symm
 · refine tt ⟨(fy a.regs b.regs ha),tt ⟨(nT hs0),tt ⟨?_,oK⟩⟩⟩
   first | exact (ke (by simpa using hs0)).symm | exact (kf (by omega)).symm | exact (kg (i := k) (by simpa using hc39)).symm | exact (kh (by simpa using hs0) (dM (by omega) (by omega) hall)).symm
end Go.Proofs.YtifoecfajmnjjaaGreat
