/-
  The reference of package process.
-/
import Derived.Test.YtgmpoenfoacofaaGreatQPrA
import Derived.Test.YtgmpoenfoacofaaGreatQVrA
namespace Go.Proofs.YtgmpoenfoacofaaGreat
open Go.RowKit
set_option linter.unusedVariables false
set_option linter.unusedSimpArgs false
abbrev wo (p : Pr) : au := (.var 82 [(dS p.name),(dS p.clock),(dL 13 jD bJ p.regs),(dL 27 tr aX p.mems),(dL 9 lh cm p.takes),(dL 16 gY bt p.puts)])
abbrev EX (p : Pr) : D := (.agg [(dS p.name),(dS p.clock),(dL 13 jD bJ p.regs),(dL 27 tr aX p.mems),(dL 9 lh cm p.takes),(dL 16 gY bt p.puts)])
abbrev za (s : Ps) : List D := [(LI s.regs),(dL 1 ac [] s.mems)]
abbrev wp : D := (.ptr 0 0 0 0)
set_option maxRecDepth 100000
abbrev Hm (v w : Int) : Ct := ⟨68,[(i6 v),(i6 w)],false,(dB (cj v w))⟩
theorem wq (v w : Int) (h1 : 0 ≤ w) (h2 : w ≤ 62) : CC (Hm v w) := by
 refine af.vc (V := TT 1 (CS (v ≥ 0) (TT 2 ((True∧(decide (v ≥ 0)) = true)∧TT 2 ((True∧IntKind.u64.wrap w = w)∧(0 ≤ w∧(Int.fdiv v (2 ^ min w.toNat 64)) = (v / 2 ^ w.toNat))∧TT 4 (((v / 2 ^ w.toNat) == 0) = (cj v w)∧True)))) (TT 2 ((True∧(decide (v ≥ 0)) = false)∧TT 8 (false = (cj v w)∧True))))) (.s 1 (v ≥ 0) (.w 1 [(2,.val (dB true)),(5,.val (dI .u64 w)),(6,.val (i6 (v / 2 ^ w.toNat)))] <| .e) (.w 1 [(2,.val (dB false))] <| .e)) Tryz.func68 rfl rfl rfl (by kernel_rfl) ?_
 refine tt ⟨fun hs0 => ?_,fun hs0 => ?_⟩
 · refine tt ⟨(vT hs0),tt ⟨⟨oK,Fe rfl om om⟩,⟨⟨(by omega),(yC h1 h2)⟩,tt ⟨?_,oK⟩⟩⟩⟩
   first | exact yQ (by omega) h1 h2 | (unfold cj; rw [decide_eq_false (by omega)]; rfl)
 · refine tt ⟨(vF hs0),tt ⟨?_,oK⟩⟩
   first | exact yQ (by omega) h1 h2 | (unfold cj; rw [decide_eq_false (by omega)]; rfl)
abbrev IH (p : Pr) (s : Ps) : Ct := ⟨45,[(EX p),(.agg (za s))],false,(dB (bC p s))⟩
abbrev kP (p : Pr) (s : Ps) : Lp (Nat) := jO [2,3,5] 2 (fun (i : Nat) => ⟨[(2,wp),(3,(.ptr 1 0 0 0)),(5,(i6 (i : Int)))],[(wo p),(.var 112 (za s))]⟩) (fun (i : Nat) => i ≤ s.regs.length∧∀ z,z < i → cj (s.regs.getD z 0) (p.regs.getD z bJ).w = true) (fun (i : Nat) => s.regs.length - i)
abbrev kQ (p : Pr) (s : Ps) : Lp (Nat) := jO [2,3,6] 2 (fun (j : Nat) => ⟨[(2,wp),(3,(.ptr 1 0 0 0)),(6,(i6 (j : Int)))],[(wo p),(.var 112 (za s))]⟩) (fun (j : Nat) => j ≤ s.mems.length∧∀ z,z < j → gh p s z = true) (fun (j : Nat) => s.mems.length - j)
abbrev kR (p : Pr) (s : Ps) (j : Nat) : Lp (Nat) := jO [2,3,6,7] 15 (fun (k : Nat) => ⟨[(2,wp),(3,(.ptr 1 0 0 0)),(6,(i6 (j : Int))),(7,(i6 (k : Int)))],[(wo p),(.var 112 (za s)),.dead,.dead,.dead,.dead,.dead,.dead,.dead,.dead,.dead,.dead,.dead,.dead,.dead]⟩) (fun (k : Nat) => k ≤ (s.mems.getD j []).length∧∀ z,z < k → cj ((s.mems.getD j []).getD z 0) (p.mems.getD j aX).w = true) (fun (k : Nat) => (s.mems.getD j []).length - k)
theorem Aq (p : Pr) (s : Ps) (hp : gi p) : CC (IH p s) := by
 have hl1 := hp.rl
 have hl2 := hp.ml
 refine af.vc (V := TT 3 (CS ((s.regs.length : Int) = (p.regs.length : Int)) (TT 7 ((True∧(!decide ((s.regs.length : Int) = (p.regs.length : Int))) = false)∧TT 8 (CN ((s.mems.length : Int) = (p.mems.length : Int)) (TT 2 (false = (bC p s)∧True)) (TT 1 (GO (kP p s) 0 (∀ i,(kP p s).inv i → TT 5 (CD ((i : Int) < (s.regs.length : Int)) (TT 3 (IX (i : Int) s.regs.length∧TT 4 (IX (i : Int) p.regs.length∧TT 2 (CC (Hm (s.regs.getD i 0) ((p.regs.getD i bJ).w))∧TT 1 (CB (!(cj (s.regs.getD i 0) ((p.regs.getD i bJ).w))) (TT 2 (false = (bC p s)∧True)) (TT 1 (W6 ((i + 1 : Nat) : Int)∧TT 1 (AG (kP p s) i (i + 1))))))))) (TT 1 (GO (kQ p s) 0 (∀ j,(kQ p s).inv j → TT 5 (CD ((j : Int) < (s.mems.length : Int)) (TT 3 (IX (j : Int) s.mems.length∧TT 5 (IX (j : Int) p.mems.length∧TT 3 (CN ((((s.mems.getD j []).length : Nat) : Int) = ((p.mems.getD j aX).words)) (TT 2 (false = (bC p s)∧True)) (TT 1 (GO (kR p s j) 0 (∀ k,(kR p s j).inv k → TT 4 (IX (j : Int) s.mems.length∧TT 3 (CD ((k : Int) < (((s.mems.getD j []).length : Nat) : Int)) (TT 3 (IX (j : Int) s.mems.length∧TT 2 (IX (k : Int) ((s.mems.getD j []).length)∧TT 4 (IX (j : Int) p.mems.length∧TT 2 (CC (Hm ((s.mems.getD j []).getD k 0) ((p.mems.getD j aX).w))∧TT 1 (CB (!(cj ((s.mems.getD j []).getD k 0) ((p.mems.getD j aX).w))) (TT 2 (false = (bC p s)∧True)) (TT 1 (W6 ((k + 1 : Nat) : Int)∧TT 1 (AG (kR p s j) k (k + 1)))))))))) (TT 1 (W6 ((j + 1 : Nat) : Int)∧TT 1 (AG (kQ p s) j (j + 1))))))))))))) (TT 2 (true = (bC p s)∧True))))))))))))) (TT 7 ((True∧(!decide ((s.regs.length : Int) = (p.regs.length : Int))) = true)∧TT 10 (false = (bC p s)∧True))))) (.s 1 ((s.regs.length : Int) = (p.regs.length : Int)) (.w 1 [(7,.val (dB false))] <| .b 23 (.e) (.l (kP p s) 0 (fun i => .b 28 (.w 6 [(11,(Hm (s.regs.getD i 0) ((p.regs.getD i bJ).w)).O)] <| .b 43 (.e) (.w 5 [(1,.val (i6 ((i + 1 : Nat) : Int)))] <| .e)) (.l (kQ p s) 0 (fun j => .b 48 (.b 63 (.e) (.l (kR p s j) 0 (fun k => .b 71 (.w 16 [(14,(Hm ((s.mems.getD j []).getD k 0) ((p.mems.getD j aX).w)).O)] <| .b 89 (.e) (.w 15 [(1,.val (i6 ((k + 1 : Nat) : Int)))] <| .e)) (.w 10 [(1,.val (i6 ((j + 1 : Nat) : Int)))] <| .e)))) (.e)))))) (.w 1 [(7,.val (dB true))] <| .e)) Tryz.func45 rfl rfl rfl (by kernel_rfl) ?_
 refine tt ⟨fun hs0 => ?_,fun hs0 => ?_⟩
 · refine tt ⟨(nF hs0),tt (cn (fun hc23 => ?_) (fun hc23 => ?_))⟩
   · refine tt ⟨?_,oK⟩
     first | exact (fI (by omega)).symm | exact (fJ (by omega)).symm | exact (fK (i := i) (by omega) (by simpa using hc43)).symm | exact (ce (i := j) (by omega) (kE (by omega))).symm | exact (ce (i := j) (by omega) (kF (j := k) (by omega) (by simpa using hc89))).symm | exact (fL (by omega) (by omega) (fun z hz => h3 z (by omega)) (fun z hz => h4 z (by omega))).symm
   · refine tt ⟨rfl,⟨by omega,fun z hz => by omega⟩,?_⟩
     intro i hinv
     obtain ⟨hi,h3⟩ := hinv
     refine tt (cd (fun hc28 => ?_) (fun hc28 => ?_))
     · have hrw := bh.1 (show av (p.regs.getD i bJ).w = true from (hp.rw i (by omega)).1)
       refine tt ⟨ix,tt ⟨ix,tt ⟨(wq (s.regs.getD i 0) ((p.regs.getD i bJ).w) om om),tt ⟨fun hc43 => ?_,fun hc43 => ?_⟩⟩⟩⟩
       · refine tt ⟨?_,oK⟩
         first | exact (fI (by omega)).symm | exact (fJ (by omega)).symm | exact (fK (i := i) (by omega) (by simpa using hc43)).symm | exact (ce (i := j) (by omega) (kE (by omega))).symm | exact (ce (i := j) (by omega) (kF (j := k) (by omega) (by simpa using hc89))).symm | exact (fL (by omega) (by omega) (fun z hz => h3 z (by omega)) (fun z hz => h4 z (by omega))).symm
       · refine tt ⟨w6,tt ⟨(i + 1),rfl,?_,(?_ : s.regs.length - (i + 1) < s.regs.length - i)⟩⟩
         · exact ⟨by omega,b6 h3 (by simpa using hc43)⟩
         · omega
     · refine tt ⟨rfl,⟨by omega,fun z hz => by omega⟩,?_⟩
       intro j hinv
       obtain ⟨hj,h4⟩ := hinv
       refine tt (cd (fun hc48 => ?_) (fun hc48 => ?_))
       · refine tt ⟨ix,tt ⟨ix,tt (cn (fun hc63 => ?_) (fun hc63 => ?_))⟩⟩
         · refine tt ⟨?_,oK⟩
           first | exact (fI (by omega)).symm | exact (fJ (by omega)).symm | exact (fK (i := i) (by omega) (by simpa using hc43)).symm | exact (ce (i := j) (by omega) (kE (by omega))).symm | exact (ce (i := j) (by omega) (kF (j := k) (by omega) (by simpa using hc89))).symm | exact (fL (by omega) (by omega) (fun z hz => h3 z (by omega)) (fun z hz => h4 z (by omega))).symm
         · have hmw : 1 ≤ (p.mems.getD j aX).words∧(p.mems.getD j aX).words ≤ 4 := (hp.mw j (by omega)).2.1
           refine tt ⟨rfl,⟨by omega,fun z hz => by omega⟩,?_⟩
           intro k hinv
           obtain ⟨hk,h5⟩ := hinv
           refine tt ⟨ix,tt (cd (fun hc71 => ?_) (fun hc71 => ?_))⟩
           · have hmww := bh.1 (show av (p.mems.getD j aX).w = true from (hp.mw j (by omega)).1)
             refine tt ⟨ix,tt ⟨ix,tt ⟨ix,tt ⟨(wq ((s.mems.getD j []).getD k 0) ((p.mems.getD j aX).w) om om),tt ⟨fun hc89 => ?_,fun hc89 => ?_⟩⟩⟩⟩⟩
             · refine tt ⟨?_,oK⟩
               first | exact (fI (by omega)).symm | exact (fJ (by omega)).symm | exact (fK (i := i) (by omega) (by simpa using hc43)).symm | exact (ce (i := j) (by omega) (kE (by omega))).symm | exact (ce (i := j) (by omega) (kF (j := k) (by omega) (by simpa using hc89))).symm | exact (fL (by omega) (by omega) (fun z hz => h3 z (by omega)) (fun z hz => h4 z (by omega))).symm
             · refine tt ⟨w6,tt ⟨(k + 1),rfl,?_,(?_ : (s.mems.getD j []).length - (k + 1) < (s.mems.getD j []).length - k)⟩⟩
               · exact ⟨by omega,b6 h5 (by simpa using hc89)⟩
               · omega
           · refine tt ⟨w6,tt ⟨(j + 1),rfl,?_,(?_ : s.mems.length - (j + 1) < s.mems.length - j)⟩⟩
             · exact ⟨by omega,b6 h4 (DR (by omega) (fun z hz => h5 z (by omega)))⟩
             · omega
       · refine tt ⟨?_,oK⟩
         first | exact (fI (by omega)).symm | exact (fJ (by omega)).symm | exact (fK (i := i) (by omega) (by simpa using hc43)).symm | exact (ce (i := j) (by omega) (kE (by omega))).symm | exact (ce (i := j) (by omega) (kF (j := k) (by omega) (by simpa using hc89))).symm | exact (fL (by omega) (by omega) (fun z hz => h3 z (by omega)) (fun z hz => h4 z (by omega))).symm
 · refine tt ⟨(nT hs0),tt ⟨?_,oK⟩⟩
   first | exact (fI (by omega)).symm | exact (fJ (by omega)).symm | exact (fK (i := i) (by omega) (by simpa using hc43)).symm | exact (ce (i := j) (by omega) (kE (by omega))).symm | exact (ce (i := j) (by omega) (kF (j := k) (by omega) (by simpa using hc89))).symm | exact (fL (by omega) (by omega) (fun z hz => h3 z (by omega)) (fun z hz => h4 z (by omega))).symm
abbrev II (p : Pr) : Ct := ⟨73,[(EX p)],true,(.agg [(LI ((aJ p).regs)),(dL 1 ac [] ((aJ p).mems))])⟩
abbrev kS (p : Pr) : Lp (Nat) := jO [1,2,3,4] 4 (fun (i : Nat) => ⟨[(1,wp),(2,(.ptr 1 0 0 0)),(3,(.ptr 2 0 0 0)),(4,(i6 (i : Int)))],[(wo p),(.var 112 [.nils,.nils]),(.var 112 [(.own 3),.nils]),(.arr 3 1 (ah .i64) 0 (tab (fun z => (p.regs.getD z bJ).init) i))]⟩) (fun (i : Nat) => i ≤ p.regs.length) (fun (i : Nat) => p.regs.length - i)
abbrev kT (p : Pr) (i : Nat) : Lp (Nat) := jO [1,2,3,5] 5 (fun (j : Nat) => ⟨[(1,wp),(2,(.ptr 1 0 0 0)),(3,(.ptr 2 0 0 0)),(5,(i6 (j : Int)))],[(wo p),(.var 112 [.nils,.nils]),(.var 112 [(.own 3),(.own 4)]),(.arr 3 1 (ah .i64) 0 (tab (fun z => (p.regs.getD z bJ).init) i)),(.arr 28 1 ac [] (tab (fun z => List.replicate (p.mems.getD z aX).words.toNat (0 : Int)) j))]⟩) (fun (j : Nat) => j ≤ p.mems.length) (fun (j : Nat) => p.mems.length - j)
theorem Ar (p : Pr) (hp : gi p) : CC (II p) := by
 have hl1 := hp.rl
 have hl2 := hp.ml
 refine af.vc (V := TT 6 (GO (kS p) 0 (∀ i,(kS p).inv i → TT 5 (CD ((i : Int) < (p.regs.length : Int)) (TT 5 (IX (i : Int) p.regs.length∧TT 2 (an [[(i6 ((p.regs.getD i bJ).init))]] ([(p.regs.getD i bJ).init].map (ah .i64))∧((tab (fun z => (p.regs.getD z bJ).init) i).length + ([(p.regs.getD i bJ).init].map (ah .i64)).length ≤ 137438953472∧(tab (fun z => (p.regs.getD z bJ).init) i).map (ah .i64) ++ [(p.regs.getD i bJ).init].map (ah .i64) = (tab (fun z => (p.regs.getD z bJ).init) (i + 1)).map (ah .i64))∧TT 3 (W6 ((i + 1 : Nat) : Int)∧TT 1 (AG (kS p) i (i + 1)))))) (TT 1 (GO (kT p i) 0 (∀ j,(kT p i).inv j → TT 5 (CD ((j : Int) < (p.mems.length : Int)) (TT 5 (IX (j : Int) p.mems.length∧TT 2 ((((0 : Int) ≤ (p.mems.getD j aX).words∧(p.mems.getD j aX).words ≤ (p.mems.getD j aX).words∧(p.mems.getD j aX).words ≤ 137438953472)∧(List.replicate (p.mems.getD j aX).words.toNat (0 : Int)).length = ((p.mems.getD j aX).words).toNat∧∀ x ∈ (List.replicate (p.mems.getD j aX).words.toNat (0 : Int)),dP [(i6 0)] ((ah .i64) x))∧an [[(LI (List.replicate (p.mems.getD j aX).words.toNat (0 : Int)))]] ([List.replicate (p.mems.getD j aX).words.toNat (0 : Int)].map ac)∧((tab (fun z => List.replicate (p.mems.getD z aX).words.toNat (0 : Int)) j).length + ([List.replicate (p.mems.getD j aX).words.toNat (0 : Int)].map ac).length ≤ 137438953472∧(tab (fun z => List.replicate (p.mems.getD z aX).words.toNat (0 : Int)) j).map ac ++ [List.replicate (p.mems.getD j aX).words.toNat (0 : Int)].map ac = (tab (fun z => List.replicate (p.mems.getD z aX).words.toNat (0 : Int)) (j + 1)).map ac)∧TT 3 (W6 ((j + 1 : Nat) : Int)∧TT 1 (AG (kT p i) j (j + 1)))))) (TT 3 ((tab (fun z => (p.regs.getD z bJ).init) i).map (ah .i64) = ((aJ p).regs).map (ah .i64)∧(tab (fun z => List.replicate (p.mems.getD z aX).words.toNat (0 : Int)) j).map ac = ((aJ p).mems).map ac∧True)))))))))) (.g 2 2 0 3 1 (ah .i64) 0 <| .l (kS p) 0 (fun i => .b 11 (.w 5 [(8,.box 3 1 (ah .i64) 0 [(p.regs.getD i bJ).init]),(9,.box 3 1 (ah .i64) 0 (tab (fun z => (p.regs.getD z bJ).init) (i + 1)))] <| .w 4 [(1,.val (i6 ((i + 1 : Nat) : Int)))] <| .e) (.g 6 2 1 28 1 ac [] <| .l (kT p i) 0 (fun j => .b 29 (.w 9 [(8,.frz 3 1 (ah .i64) 0 (List.replicate (p.mems.getD j aX).words.toNat (0 : Int))),(9,.box 28 1 ac [] [List.replicate (p.mems.getD j aX).words.toNat (0 : Int)]),(10,.box 28 1 ac [] (tab (fun z => List.replicate (p.mems.getD z aX).words.toNat (0 : Int)) (j + 1)))] <| .w 8 [(1,.val (i6 ((j + 1 : Nat) : Int)))] <| .e) (.e))))) Tryz.func73 rfl rfl rfl (by kernel_rfl) ?_
 refine tt ⟨rfl,(by omega),?_⟩
 intro i hinv
 have hi := hinv
 refine tt (cd (fun hc11 => ?_) (fun hc11 => ?_))
 · refine tt ⟨ix,tt ⟨⟨⟨rfl,oK⟩,oK⟩,⟨(gN (f := fun z => (p.regs.getD z bJ).init) (by omega)),tt ⟨w6,tt ⟨(i + 1),rfl,(?_ : (i + 1) ≤ p.regs.length),(?_ : p.regs.length - (i + 1) < p.regs.length - i)⟩⟩⟩⟩⟩
   · omega
   · omega
 · refine tt ⟨rfl,(by omega),?_⟩
   intro j hinv
   have hj := hinv
   refine tt (cd (fun hc29 => ?_) (fun hc29 => ?_))
   · have hmw : 1 ≤ (p.mems.getD j aX).words∧(p.mems.getD j aX).words ≤ 4 := (hp.mw j (by omega)).2.1
     refine tt ⟨ix,tt ⟨⟨by omega,List.length_replicate,fun x hx => by rw [List.eq_of_mem_replicate hx]; exact ⟨rfl,oK⟩⟩,⟨⟨⟨rfl,oK⟩,oK⟩,⟨(gN (f := fun z => List.replicate (p.mems.getD z aX).words.toNat (0 : Int)) (by omega)),tt ⟨w6,tt ⟨(j + 1),rfl,(?_ : (j + 1) ≤ p.mems.length),(?_ : p.mems.length - (j + 1) < p.mems.length - j)⟩⟩⟩⟩⟩⟩
     · omega
     · omega
   · refine tt ⟨(congrArg _ (?_ : (tab (fun z => (p.regs.getD z bJ).init) i) = ((aJ p).regs))),(congrArg _ (?_ : (tab (fun z => List.replicate (p.mems.getD z aX).words.toNat (0 : Int)) j) = ((aJ p).mems))),oK⟩
     · rw [m5,show i = p.regs.length by omega]
     · rw [m5,show j = p.mems.length by omega]
end Go.Proofs.YtgmpoenfoacofaaGreat
