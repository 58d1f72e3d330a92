/-
  The reference of package process.
-/
import Derived.Test.YtifoecfajmnjjaaGreatQPrA
import Derived.Test.YtifoecfajmnjjaaGreatQPrT
import Derived.Test.YtifoecfajmnjjaaGreatQVrA
namespace Go.Proofs.YtifoecfajmnjjaaGreat
open Go.RowKit
set_option linter.unusedVariables false
set_option linter.unusedSimpArgs false
abbrev qH (p : Pr) : aM := (.var 55 [(dS p.name),(dS p.clock),(dL 13 lL ci p.regs),(dL 27 tK a5 p.mems),(dL 9 kZ bM p.takes),(dL 16 gV bj p.puts)])
abbrev E5 (p : Pr) (s : Ps) (hs : List Hd) : aM := (.var 156 [(dS p.name),(dS p.clock),(dL 13 lL ci p.regs),(dL 27 tK a5 p.mems),(dL 9 kZ bM p.takes),(dL 16 gV bj p.puts),(LI s.regs),(dL 1 af [] s.mems),(LI (cB p s hs))])
abbrev E6 (p : Pr) : D := (.agg [(dS p.name),(dS p.clock),(dL 13 lL ci p.regs),(dL 27 tK a5 p.mems),(dL 9 kZ bM p.takes),(dL 16 gV bj p.puts)])
abbrev IC (p : Pr) (s : Ps) (data : List Int) : aM := (.var 156 [(dS p.name),(dS p.clock),(dL 13 lL ci p.regs),(dL 27 tK a5 p.mems),(dL 9 kZ bM p.takes),(dL 16 gV bj p.puts),(LI s.regs),(dL 1 af [] s.mems),(LI data)])
abbrev IE (p : Pr) (s : Ps) (data : List Int) : D := (.agg [(dS p.name),(dS p.clock),(dL 13 lL ci p.regs),(dL 27 tK a5 p.mems),(dL 9 kZ bM p.takes),(dL 16 gV bj p.puts),(LI s.regs),(dL 1 af [] s.mems),(LI data)])
abbrev oY (s : Ps) : List D := [(LI s.regs),(dL 1 af [] s.mems)]
abbrev jA : D := (.ptr 0 0 0 0)
abbrev E7 : aM := (.var 48 [(dB false),.nils,.nils,.nils,.nils])
set_option maxRecDepth 100000
abbrev M4 (v w : Int) : Ct := ⟨81,[(i6 v),(i6 w)],false,(dB (cS v w))⟩
theorem BC (v w : Int) (h1 : 0 ≤ w) (h2 : w ≤ 62) : CC (M4 v w) := by
 refine an.vc (V := TT 1 (CS (v ≥ 0) (TT 2 ((True∧(decide (v ≥ 0)) = true)∧TT 2 ((True∧IntKind.u64.wrap w = w)∧(0 ≤ w∧(Int.fdiv v (2 ^ min w.toNat 64)) = (v / 2 ^ w.toNat))∧TT 4 (((v / 2 ^ w.toNat) == 0) = (cS v w)∧True)))) (TT 2 ((True∧(decide (v ≥ 0)) = false)∧TT 8 (false = (cS v w)∧True))))) (.s 1 (v ≥ 0) (.w 1 [(2,.val (dB true)),(5,.val (dI .u64 w)),(6,.val (i6 (v / 2 ^ w.toNat)))] <| .e) (.w 1 [(2,.val (dB false))] <| .e)) Tryz.func81 rfl rfl rfl (by kernel_rfl) ?_
 refine tt ⟨fun hs0 => ?_,fun hs0 => ?_⟩
 · refine tt ⟨(vT hs0),tt ⟨⟨oK,Hj rfl om om⟩,⟨⟨(by omega),(zt h1 h2)⟩,tt ⟨?_,oK⟩⟩⟩⟩
   first | exact EC (by omega) h1 h2 | (unfold cS; rw [decide_eq_false (by omega)]; rfl)
 · refine tt ⟨(vF hs0),tt ⟨?_,oK⟩⟩
   first | exact EC (by omega) h1 h2 | (unfold cS; rw [decide_eq_false (by omega)]; rfl)
abbrev OA (p : Pr) (s : Ps) : Ct := ⟨54,[(E6 p),(.agg (oY s))],false,(dB (bO p s))⟩
abbrev pW (p : Pr) (s : Ps) : Lp (Nat) := fX [2,3,5] 2 (fun (i : Nat) => ⟨[(2,jA),(3,(.ptr 1 0 0 0)),(5,(i6 (i : Int)))],[(qH p),(.var 45 (oY s))]⟩) (fun (i : Nat) => i ≤ s.regs.length∧∀ z,z < i → cS (s.regs.getD z 0) (p.regs.getD z ci).w = true) (fun (i : Nat) => s.regs.length - i)
abbrev pX (p : Pr) (s : Ps) : Lp (Nat) := fX [2,3,6] 2 (fun (j : Nat) => ⟨[(2,jA),(3,(.ptr 1 0 0 0)),(6,(i6 (j : Int)))],[(qH p),(.var 45 (oY s))]⟩) (fun (j : Nat) => j ≤ s.mems.length∧∀ z,z < j → jq p s z = true) (fun (j : Nat) => s.mems.length - j)
abbrev pY (p : Pr) (s : Ps) (j : Nat) : Lp (Nat) := fX [2,3,6,7] 15 (fun (k : Nat) => ⟨[(2,jA),(3,(.ptr 1 0 0 0)),(6,(i6 (j : Int))),(7,(i6 (k : Int)))],[(qH p),(.var 45 (oY s)),.dead,.dead,.dead,.dead,.dead,.dead,.dead,.dead,.dead,.dead,.dead,.dead,.dead]⟩) (fun (k : Nat) => k ≤ (s.mems.getD j []).length∧∀ z,z < k → cS ((s.mems.getD j []).getD z 0) (p.mems.getD j a5).w = true) (fun (k : Nat) => (s.mems.getD j []).length - k)
theorem Gr (p : Pr) (s : Ps) (hp : iA p) : CC (OA p s) := by
 have hl1 := hp.rl
 have hl2 := hp.ml
 refine an.vc (V := TT 3 (CS ((s.regs.length : Int) = (p.regs.length : Int)) (TT 7 ((True∧(!decide ((s.regs.length : Int) = (p.regs.length : Int))) = false)∧TT 8 (CN ((s.mems.length : Int) = (p.mems.length : Int)) (TT 2 (false = (bO p s)∧True)) (TT 1 (GO (pW p s) 0 (∀ i,(pW p s).inv i → TT 5 (CD ((i : Int) < (s.regs.length : Int)) (TT 3 (IX (i : Int) s.regs.length∧TT 4 (IX (i : Int) p.regs.length∧TT 2 (CC (M4 (s.regs.getD i 0) ((p.regs.getD i ci).w))∧TT 1 (CB (!(cS (s.regs.getD i 0) ((p.regs.getD i ci).w))) (TT 2 (false = (bO p s)∧True)) (TT 1 (W6 ((i + 1 : Nat) : Int)∧TT 1 (AG (pW p s) i (i + 1))))))))) (TT 1 (GO (pX p s) 0 (∀ j,(pX p s).inv j → TT 5 (CD ((j : Int) < (s.mems.length : Int)) (TT 3 (IX (j : Int) s.mems.length∧TT 5 (IX (j : Int) p.mems.length∧TT 3 (CN ((((s.mems.getD j []).length : Nat) : Int) = ((p.mems.getD j a5).words)) (TT 2 (false = (bO p s)∧True)) (TT 1 (GO (pY p s j) 0 (∀ k,(pY p s j).inv k → TT 4 (IX (j : Int) s.mems.length∧TT 3 (CD ((k : Int) < (((s.mems.getD j []).length : Nat) : Int)) (TT 3 (IX (j : Int) s.mems.length∧TT 2 (IX (k : Int) ((s.mems.getD j []).length)∧TT 4 (IX (j : Int) p.mems.length∧TT 2 (CC (M4 ((s.mems.getD j []).getD k 0) ((p.mems.getD j a5).w))∧TT 1 (CB (!(cS ((s.mems.getD j []).getD k 0) ((p.mems.getD j a5).w))) (TT 2 (false = (bO p s)∧True)) (TT 1 (W6 ((k + 1 : Nat) : Int)∧TT 1 (AG (pY p s j) k (k + 1)))))))))) (TT 1 (W6 ((j + 1 : Nat) : Int)∧TT 1 (AG (pX p s) j (j + 1))))))))))))) (TT 2 (true = (bO p s)∧True))))))))))))) (TT 7 ((True∧(!decide ((s.regs.length : Int) = (p.regs.length : Int))) = true)∧TT 10 (false = (bO p s)∧True))))) (.s 1 ((s.regs.length : Int) = (p.regs.length : Int)) (.w 1 [(7,.val (dB false))] <| .b 23 (.e) (.l (pW p s) 0 (fun i => .b 28 (.w 6 [(11,(M4 (s.regs.getD i 0) ((p.regs.getD i ci).w)).O)] <| .b 43 (.e) (.w 5 [(1,.val (i6 ((i + 1 : Nat) : Int)))] <| .e)) (.l (pX p s) 0 (fun j => .b 48 (.b 63 (.e) (.l (pY p s j) 0 (fun k => .b 71 (.w 16 [(14,(M4 ((s.mems.getD j []).getD k 0) ((p.mems.getD j a5).w)).O)] <| .b 89 (.e) (.w 15 [(1,.val (i6 ((k + 1 : Nat) : Int)))] <| .e)) (.w 10 [(1,.val (i6 ((j + 1 : Nat) : Int)))] <| .e)))) (.e)))))) (.w 1 [(7,.val (dB true))] <| .e)) Tryz.func54 rfl rfl rfl (by kernel_rfl) ?_
 refine tt ⟨fun hs0 => ?_,fun hs0 => ?_⟩
 · refine tt ⟨(nF hs0),tt (cn (fun hc23 => ?_) (fun hc23 => ?_))⟩
   · refine tt ⟨?_,oK⟩
     first | exact (d4 (by omega)).symm | exact (d5 (by omega)).symm | exact (d6 (i := i) (by omega) (by simpa using hc43)).symm | exact (bK (i := j) (by omega) (gC (by omega))).symm | exact (bK (i := j) (by omega) (gD (j := k) (by omega) (by simpa using hc89))).symm | exact (d7 (by omega) (by omega) (fun z hz => h3 z (by omega)) (fun z hz => h4 z (by omega))).symm
   · refine tt ⟨rfl,⟨by omega,fun z hz => by omega⟩,?_⟩
     intro i hinv
     obtain ⟨hi,h3⟩ := hinv
     refine tt (cd (fun hc28 => ?_) (fun hc28 => ?_))
     · have hrw := bc.1 (show aA (p.regs.getD i ci).w = true from (hp.rw i (by omega)).1)
       refine tt ⟨ix,tt ⟨ix,tt ⟨(BC (s.regs.getD i 0) ((p.regs.getD i ci).w) om om),tt ⟨fun hc43 => ?_,fun hc43 => ?_⟩⟩⟩⟩
       · refine tt ⟨?_,oK⟩
         first | exact (d4 (by omega)).symm | exact (d5 (by omega)).symm | exact (d6 (i := i) (by omega) (by simpa using hc43)).symm | exact (bK (i := j) (by omega) (gC (by omega))).symm | exact (bK (i := j) (by omega) (gD (j := k) (by omega) (by simpa using hc89))).symm | exact (d7 (by omega) (by omega) (fun z hz => h3 z (by omega)) (fun z hz => h4 z (by omega))).symm
       · refine tt ⟨w6,tt ⟨(i + 1),rfl,?_,(?_ : s.regs.length - (i + 1) < s.regs.length - i)⟩⟩
         · exact ⟨by omega,cy h3 (by simpa using hc43)⟩
         · omega
     · refine tt ⟨rfl,⟨by omega,fun z hz => by omega⟩,?_⟩
       intro j hinv
       obtain ⟨hj,h4⟩ := hinv
       refine tt (cd (fun hc48 => ?_) (fun hc48 => ?_))
       · refine tt ⟨ix,tt ⟨ix,tt (cn (fun hc63 => ?_) (fun hc63 => ?_))⟩⟩
         · refine tt ⟨?_,oK⟩
           first | exact (d4 (by omega)).symm | exact (d5 (by omega)).symm | exact (d6 (i := i) (by omega) (by simpa using hc43)).symm | exact (bK (i := j) (by omega) (gC (by omega))).symm | exact (bK (i := j) (by omega) (gD (j := k) (by omega) (by simpa using hc89))).symm | exact (d7 (by omega) (by omega) (fun z hz => h3 z (by omega)) (fun z hz => h4 z (by omega))).symm
         · have hmw : 1 ≤ (p.mems.getD j a5).words∧(p.mems.getD j a5).words ≤ 4 := (hp.mw j (by omega)).2.1
           refine tt ⟨rfl,⟨by omega,fun z hz => by omega⟩,?_⟩
           intro k hinv
           obtain ⟨hk,h5⟩ := hinv
           refine tt ⟨ix,tt (cd (fun hc71 => ?_) (fun hc71 => ?_))⟩
           · have hmww := bc.1 (show aA (p.mems.getD j a5).w = true from (hp.mw j (by omega)).1)
             refine tt ⟨ix,tt ⟨ix,tt ⟨ix,tt ⟨(BC ((s.mems.getD j []).getD k 0) ((p.mems.getD j a5).w) om om),tt ⟨fun hc89 => ?_,fun hc89 => ?_⟩⟩⟩⟩⟩
             · refine tt ⟨?_,oK⟩
               first | exact (d4 (by omega)).symm | exact (d5 (by omega)).symm | exact (d6 (i := i) (by omega) (by simpa using hc43)).symm | exact (bK (i := j) (by omega) (gC (by omega))).symm | exact (bK (i := j) (by omega) (gD (j := k) (by omega) (by simpa using hc89))).symm | exact (d7 (by omega) (by omega) (fun z hz => h3 z (by omega)) (fun z hz => h4 z (by omega))).symm
             · refine tt ⟨w6,tt ⟨(k + 1),rfl,?_,(?_ : (s.mems.getD j []).length - (k + 1) < (s.mems.getD j []).length - k)⟩⟩
               · exact ⟨by omega,cy h5 (by simpa using hc89)⟩
               · omega
           · refine tt ⟨w6,tt ⟨(j + 1),rfl,?_,(?_ : s.mems.length - (j + 1) < s.mems.length - j)⟩⟩
             · exact ⟨by omega,cy h4 (EB (by omega) (fun z hz => h5 z (by omega)))⟩
             · omega
       · refine tt ⟨?_,oK⟩
         first | exact (d4 (by omega)).symm | exact (d5 (by omega)).symm | exact (d6 (i := i) (by omega) (by simpa using hc43)).symm | exact (bK (i := j) (by omega) (gC (by omega))).symm | exact (bK (i := j) (by omega) (gD (j := k) (by omega) (by simpa using hc89))).symm | exact (d7 (by omega) (by omega) (fun z hz => h3 z (by omega)) (fun z hz => h4 z (by omega))).symm
 · refine tt ⟨(nT hs0),tt ⟨?_,oK⟩⟩
   first | exact (d4 (by omega)).symm | exact (d5 (by omega)).symm | exact (d6 (i := i) (by omega) (by simpa using hc43)).symm | exact (bK (i := j) (by omega) (gC (by omega))).symm | exact (bK (i := j) (by omega) (gD (j := k) (by omega) (by simpa using hc89))).symm | exact (d7 (by omega) (by omega) (fun z hz => h3 z (by omega)) (fun z hz => h4 z (by omega))).symm
abbrev OB (p : Pr) : Ct := ⟨59,[(E6 p)],true,(.agg [(LI ((bg p).regs)),(dL 1 af [] ((bg p).mems))])⟩
abbrev pZ (p : Pr) : Lp (Nat) := fX [1,2,3,4] 4 (fun (i : Nat) => ⟨[(1,jA),(2,(.ptr 1 0 0 0)),(3,(.ptr 2 0 0 0)),(4,(i6 (i : Int)))],[(qH p),(.var 45 [.nils,.nils]),(.var 45 [(.own 3),.nils]),(.arr 3 1 (ah .i64) 0 (ao (fun z => (p.regs.getD z ci).init) i))]⟩) (fun (i : Nat) => i ≤ p.regs.length) (fun (i : Nat) => p.regs.length - i)
abbrev p4 (p : Pr) (i : Nat) : Lp (Nat) := fX [1,2,3,5] 5 (fun (j : Nat) => ⟨[(1,jA),(2,(.ptr 1 0 0 0)),(3,(.ptr 2 0 0 0)),(5,(i6 (j : Int)))],[(qH p),(.var 45 [.nils,.nils]),(.var 45 [(.own 3),(.own 4)]),(.arr 3 1 (ah .i64) 0 (ao (fun z => (p.regs.getD z ci).init) i)),(.arr 43 1 af [] (ao (fun z => List.replicate (p.mems.getD z a5).words.toNat (0 : Int)) j))]⟩) (fun (j : Nat) => j ≤ p.mems.length) (fun (j : Nat) => p.mems.length - j)
theorem Gs (p : Pr) (hp : iA p) : CC (OB p) := by
 have hl1 := hp.rl
 have hl2 := hp.ml
 refine an.vc (V := TT 6 (GO (pZ p) 0 (∀ i,(pZ p).inv i → TT 5 (CD ((i : Int) < (p.regs.length : Int)) (TT 5 (IX (i : Int) p.regs.length∧TT 2 (aq [[(i6 ((p.regs.getD i ci).init))]] ([(p.regs.getD i ci).init].map (ah .i64))∧((ao (fun z => (p.regs.getD z ci).init) i).length + ([(p.regs.getD i ci).init].map (ah .i64)).length ≤ 137438953472∧(ao (fun z => (p.regs.getD z ci).init) i).map (ah .i64) ++ [(p.regs.getD i ci).init].map (ah .i64) = (ao (fun z => (p.regs.getD z ci).init) (i + 1)).map (ah .i64))∧TT 3 (W6 ((i + 1 : Nat) : Int)∧TT 1 (AG (pZ p) i (i + 1)))))) (TT 1 (GO (p4 p i) 0 (∀ j,(p4 p i).inv j → TT 5 (CD ((j : Int) < (p.mems.length : Int)) (TT 5 (IX (j : Int) p.mems.length∧TT 2 ((((0 : Int) ≤ (p.mems.getD j a5).words∧(p.mems.getD j a5).words ≤ (p.mems.getD j a5).words∧(p.mems.getD j a5).words ≤ 137438953472)∧(List.replicate (p.mems.getD j a5).words.toNat (0 : Int)).length = ((p.mems.getD j a5).words).toNat∧∀ x ∈ (List.replicate (p.mems.getD j a5).words.toNat (0 : Int)),di [(i6 0)] ((ah .i64) x))∧aq [[(LI (List.replicate (p.mems.getD j a5).words.toNat (0 : Int)))]] ([List.replicate (p.mems.getD j a5).words.toNat (0 : Int)].map af)∧((ao (fun z => List.replicate (p.mems.getD z a5).words.toNat (0 : Int)) j).length + ([List.replicate (p.mems.getD j a5).words.toNat (0 : Int)].map af).length ≤ 137438953472∧(ao (fun z => List.replicate (p.mems.getD z a5).words.toNat (0 : Int)) j).map af ++ [List.replicate (p.mems.getD j a5).words.toNat (0 : Int)].map af = (ao (fun z => List.replicate (p.mems.getD z a5).words.toNat (0 : Int)) (j + 1)).map af)∧TT 3 (W6 ((j + 1 : Nat) : Int)∧TT 1 (AG (p4 p i) j (j + 1)))))) (TT 3 ((ao (fun z => (p.regs.getD z ci).init) i).map (ah .i64) = ((bg p).regs).map (ah .i64)∧(ao (fun z => List.replicate (p.mems.getD z a5).words.toNat (0 : Int)) j).map af = ((bg p).mems).map af∧True)))))))))) (.g 2 2 0 3 1 (ah .i64) 0 <| .l (pZ p) 0 (fun i => .b 11 (.w 5 [(8,.box 3 1 (ah .i64) 0 [(p.regs.getD i ci).init]),(9,.box 3 1 (ah .i64) 0 (ao (fun z => (p.regs.getD z ci).init) (i + 1)))] <| .w 4 [(1,.val (i6 ((i + 1 : Nat) : Int)))] <| .e) (.g 6 2 1 43 1 af [] <| .l (p4 p i) 0 (fun j => .b 29 (.w 9 [(8,.frz 3 1 (ah .i64) 0 (List.replicate (p.mems.getD j a5).words.toNat (0 : Int))),(9,.box 43 1 af [] [List.replicate (p.mems.getD j a5).words.toNat (0 : Int)]),(10,.box 43 1 af [] (ao (fun z => List.replicate (p.mems.getD z a5).words.toNat (0 : Int)) (j + 1)))] <| .w 8 [(1,.val (i6 ((j + 1 : Nat) : Int)))] <| .e) (.e))))) Tryz.func59 rfl rfl rfl (by kernel_rfl) ?_
 refine tt ⟨rfl,(by omega),?_⟩
 intro i hinv
 have hi := hinv
 refine tt (cd (fun hc11 => ?_) (fun hc11 => ?_))
 · refine tt ⟨ix,tt ⟨⟨⟨rfl,oK⟩,oK⟩,⟨(i3 (f := fun z => (p.regs.getD z ci).init) (by omega)),tt ⟨w6,tt ⟨(i + 1),rfl,(?_ : (i + 1) ≤ p.regs.length),(?_ : p.regs.length - (i + 1) < p.regs.length - i)⟩⟩⟩⟩⟩
   · omega
   · omega
 · refine tt ⟨rfl,(by omega),?_⟩
   intro j hinv
   have hj := hinv
   refine tt (cd (fun hc29 => ?_) (fun hc29 => ?_))
   · have hmw : 1 ≤ (p.mems.getD j a5).words∧(p.mems.getD j a5).words ≤ 4 := (hp.mw j (by omega)).2.1
     refine tt ⟨ix,tt ⟨⟨by omega,List.length_replicate,fun x hx => by rw [List.eq_of_mem_replicate hx]; exact ⟨rfl,oK⟩⟩,⟨⟨⟨rfl,oK⟩,oK⟩,⟨(i3 (f := fun z => List.replicate (p.mems.getD z a5).words.toNat (0 : Int)) (by omega)),tt ⟨w6,tt ⟨(j + 1),rfl,(?_ : (j + 1) ≤ p.mems.length),(?_ : p.mems.length - (j + 1) < p.mems.length - j)⟩⟩⟩⟩⟩⟩
     · omega
     · omega
   · refine tt ⟨(congrArg _ (?_ : (ao (fun z => (p.regs.getD z ci).init) i) = ((bg p).regs))),(congrArg _ (?_ : (ao (fun z => List.replicate (p.mems.getD z a5).words.toNat (0 : Int)) j) = ((bg p).mems))),oK⟩
     · rw [sj,show i = p.regs.length by omega]
     · rw [sj,show j = p.mems.length by omega]
abbrev BD (p : Pr) (s : Ps) (data : List Int) (n : Nat) (e : Ex) : Ct := ⟨77,[(IE p s data),(.agg [(i6 e.op),(dS e.name),(i6 e.k.n),(dS e.k.p),(i6 e.w.n),(dS e.w.p),(dL 7 (eA n) dE e.args)])],false,(.agg [(i6 ((br p s data e).1)),(i6 ((br p s data e).2))])⟩
abbrev vx (p : Pr) (s : Ps) (data : List Int) (n : Nat) (e : Ex) : Lp (Nat) := fX [2,3,4,7,8,9] 5 (fun (i : Nat) => ⟨[(2,jA),(3,(.ptr 1 0 0 0)),(4,(.ptr 2 0 0 0)),(7,(.own 3)),(8,(.own 4)),(9,(i6 (i : Int)))],[(IC p s data),(.var 62 [(i6 e.op),(dS e.name),(i6 e.k.n),(dS e.k.p),(i6 e.w.n),(dS e.w.p),(dL 7 (eA (n + 1)) dE e.args)]),(.var 161 [(i6 0),(i6 0)]),(.arr 3 1 (ah .i64) 0 (gf p s data (e.args.take i))),(.arr 3 1 (ah .i64) 0 (d9 p s data (e.args.take i)))]⟩) (fun (i : Nat) => i ≤ e.args.length) (fun (i : Nat) => e.args.length - i)
theorem E8 (p : Pr) (s : Ps) (data : List Int) (n : Nat) (e : Ex) (c : Sc) (v : Int) (ho : tL c p s data) (ht : gi c e = some v) (hmw : ∀ i,i < p.mems.length → ((s.mems.getD i []).length : Int) = (p.mems.getD i a5).words) (ih : ∀ a ∈ e.args,CC (BD p s data n a)) : CC (BD p s data (n + 1) e) := by
 have hal := HN ht
 refine an.vc (V := TT 7 (CD (e.op = 16) (TT 6 (IX e.k.n s.regs.length∧TT 7 (IX e.k.n p.regs.length∧TT 5 ((((s.regs.getD e.k.n.toNat 0) = ((br p s data e).1)∧((p.regs.getD e.k.n.toNat ci).w) = ((br p s data e).2)∧True))∧((True∧True∧True)))))) (TT 2 (CD (e.op = 17) (TT 6 (IX e.k.n p.mems.length∧TT 6 (IX 0 e.args.length∧TT 1 (CC (BD p s data n (e.args.getD 0 dE))∧TT 8 (IX e.k.n s.mems.length∧TT 5 ((((p.mems.getD e.k.n.toNat a5).words) ≠ 0∧(Int.tmod ((br p s data (e.args.getD 0 dE)).1) ((p.mems.getD e.k.n.toNat a5).words)) = (Int.tmod (br p s data (e.args.getD 0 dE)).1 ((s.mems.getD e.k.n.toNat []).length : Int)))∧IX (Int.tmod (br p s data (e.args.getD 0 dE)).1 ((s.mems.getD e.k.n.toNat []).length : Int)) ((s.mems.getD e.k.n.toNat []).length)∧TT 6 (((((s.mems.getD e.k.n.toNat []).getD ((Int.tmod (br p s data (e.args.getD 0 dE)).1 ((s.mems.getD e.k.n.toNat []).length : Int)).toNat) 0) = ((br p s data e).1)∧((p.mems.getD e.k.n.toNat a5).w) = ((br p s data e).2)∧True))∧((True∧True∧True))))))))) (TT 2 (CD (e.op = 18) (TT 5 (IX e.k.n data.length∧TT 7 (IX e.k.n p.takes.length∧TT 5 ((((data.getD e.k.n.toNat 0) = ((br p s data e).1)∧((p.takes.getD e.k.n.toNat bM).w) = ((br p s data e).2)∧True))∧((True∧True∧True)))))) (aq [] ((gf p s data (e.args.take 0)).map (ah .i64))∧aq [] ((d9 p s data (e.args.take 0)).map (ah .i64))∧TT 3 (GO (vx p s data n e) 0 (∀ i,(vx p s data n e).inv i → TT 5 (CD ((i : Int) < (e.args.length : Int)) (TT 4 (IX (i : Int) e.args.length∧TT 1 (CC (BD p s data n (e.args.getD i dE))∧TT 5 (aq [[(i6 ((br p s data (e.args.getD i dE)).1))]] ([(br p s data (e.args.getD i dE)).1].map (ah .i64))∧((gf p s data (e.args.take i)).length + ([(br p s data (e.args.getD i dE)).1].map (ah .i64)).length ≤ 137438953472∧(gf p s data (e.args.take i)).map (ah .i64) ++ [(br p s data (e.args.getD i dE)).1].map (ah .i64) = (gf p s data (e.args.take (i + 1))).map (ah .i64))∧TT 4 (aq [[(i6 ((br p s data (e.args.getD i dE)).2))]] ([(br p s data (e.args.getD i dE)).2].map (ah .i64))∧((d9 p s data (e.args.take i)).length + ([(br p s data (e.args.getD i dE)).2].map (ah .i64)).length ≤ 137438953472∧(d9 p s data (e.args.take i)).map (ah .i64) ++ [(br p s data (e.args.getD i dE)).2].map (ah .i64) = (d9 p s data (e.args.take (i + 1))).map (ah .i64))∧TT 2 (W6 ((i + 1 : Nat) : Int)∧TT 1 (AG (vx p s data n e) i (i + 1)))))))) (TT 10 (CK (M3 e.op (d9 p s data (e.args.take i)) e.k.n e.w.n)∧TT 12 (aq [[(i6 e.k.n)],[(i6 e.w.n)]] ([e.k.n,e.w.n].map (ah .i64))∧TT 1 (CK (Oz e.op (d9 p s data (e.args.take i)) (gf p s data (e.args.take i)) [e.k.n,e.w.n])∧TT 9 ((((dn e.op (d9 p s data (e.args.take i)) (gf p s data (e.args.take i)) [e.k.n,e.w.n]) = ((br p s data e).1)∧(cE e.op (d9 p s data (e.args.take i)) e.k.n e.w.n) = ((br p s data e).2)∧True))∧((True∧True∧True))))))))))))))))) (.b 15 (.e) (.b 35 (.w 6 [(5,(BD p s data n (e.args.getD 0 dE)).O)] <| .w 7 [(12,.val (i6 (Int.tmod (br p s data (e.args.getD 0 dE)).1 ((s.mems.getD e.k.n.toNat []).length : Int))))] <| .e) (.b 69 (.e) (.w 10 [(0,.box 3 1 (ah .i64) 0 (gf p s data (e.args.take 0))),(1,.box 3 1 (ah .i64) 0 (d9 p s data (e.args.take 0)))] <| .l (vx p s data n e) 0 (fun i => .b 94 (.w 14 [(6,(BD p s data n (e.args.getD i dE)).O)] <| .w 15 [(3,.box 3 1 (ah .i64) 0 [(br p s data (e.args.getD i dE)).1]),(4,.box 3 1 (ah .i64) 0 (gf p s data (e.args.take (i + 1))))] <| .w 16 [(3,.box 3 1 (ah .i64) 0 [(br p s data (e.args.getD i dE)).2]),(4,.box 3 1 (ah .i64) 0 (d9 p s data (e.args.take (i + 1))))] <| .w 13 [(1,.val (i6 ((i + 1 : Nat) : Int)))] <| .e) (.w 17 [(10,(M3 e.op (d9 p s data (e.args.take i)) e.k.n e.w.n).O')] <| .w 18 [(10,.box 3 1 (ah .i64) 0 [e.k.n,e.w.n]),(12,(Oz e.op (d9 p s data (e.args.take i)) (gf p s data (e.args.take i)) [e.k.n,e.w.n]).O')] <| .e)))))) Tryz.func77 rfl rfl rfl (by kernel_rfl) ?_
 refine tt (cd (fun hc15 => ?_) (fun hc15 => ?_))
 · obtain ⟨h1,h2,h3⟩ := HO ho ht hc15
   refine tt ⟨ix,tt ⟨ix,tt ⟨⟨?_,?_,oK⟩,⟨oK,oK,oK⟩⟩⟩⟩
   all_goals (first | exact (ge hc15).1.symm | exact (ge hc15).2.symm | exact (ep hc69).1.symm | exact (ep hc69).2.symm | exact (er hc35 hlen).1.symm | exact (er hc35 hlen).2.symm | (rw [hie,List.take_length]; exact (jx hc15 hc69 hc35).1.symm) | (rw [hie,List.take_length]; exact (jx hc15 hc69 hc35).2.symm))
 · refine tt (cd (fun hc35 => ?_) (fun hc35 => ?_))
   · obtain ⟨h1,h2,h3,hlen,h4,h5,h6⟩ := Eo ho ht hc35
     have hpw : (p.mems.getD e.k.n.toNat a5).words = ((s.mems.getD e.k.n.toNat []).length : Int) := (hmw _ (by omega)).symm
     have hz : (s.mems.getD e.k.n.toNat []).length ≠ 0 := by omega
     refine tt ⟨ix,tt ⟨ix,tt ⟨(ih _ (jZ (by omega))),tt ⟨ix,tt ⟨⟨(by omega),(by rw [hpw])⟩,⟨ix,tt ⟨⟨?_,?_,oK⟩,⟨oK,oK,oK⟩⟩⟩⟩⟩⟩⟩⟩
     all_goals (first | exact (ge hc15).1.symm | exact (ge hc15).2.symm | exact (ep hc69).1.symm | exact (ep hc69).2.symm | exact (er hc35 hlen).1.symm | exact (er hc35 hlen).2.symm | (rw [hie,List.take_length]; exact (jx hc15 hc69 hc35).1.symm) | (rw [hie,List.take_length]; exact (jx hc15 hc69 hc35).2.symm))
   · refine tt (cd (fun hc69 => ?_) (fun hc69 => ?_))
     · obtain ⟨h1,h2,h3⟩ := Em ho ht hc69
       refine tt ⟨ix,tt ⟨ix,tt ⟨⟨?_,?_,oK⟩,⟨oK,oK,oK⟩⟩⟩⟩
       all_goals (first | exact (ge hc15).1.symm | exact (ge hc15).2.symm | exact (ep hc69).1.symm | exact (ep hc69).2.symm | exact (er hc35 hlen).1.symm | exact (er hc35 hlen).2.symm | (rw [hie,List.take_length]; exact (jx hc15 hc69 hc35).1.symm) | (rw [hie,List.take_length]; exact (jx hc15 hc69 hc35).2.symm))
     · refine ⟨oK,⟨oK,tt ⟨rfl,(by omega),?_⟩⟩⟩
       intro i hinv
       have hi := hinv
       refine tt (cd (fun hc94 => ?_) (fun hc94 => ?_))
       · refine tt ⟨ix,tt ⟨(ih _ (jZ (by omega))),tt ⟨⟨⟨rfl,oK⟩,oK⟩,⟨⟨by simp only [List.length_map,List.length_cons,List.length_nil]; rw [wt,List.length_take]; omega,by rw [yf (by omega),List.map_append]⟩,tt ⟨⟨⟨rfl,oK⟩,oK⟩,⟨⟨by simp only [List.length_map,List.length_cons,List.length_nil]; rw [se,List.length_take]; omega,by rw [yg (by omega),List.map_append]⟩,tt ⟨w6,tt ⟨(i + 1),rfl,(?_ : (i + 1) ≤ e.args.length),(?_ : e.args.length - (i + 1) < e.args.length - i)⟩⟩⟩⟩⟩⟩⟩⟩
         · omega
         · omega
       · have hie : i = e.args.length := by omega
         have hev := H4 ho ht hc15 hc35 hc69
         have hev1 : jd e.op (d9 p s data (e.args.take i)) e.k.n e.w.n = true := by rw [hie,List.take_length]; exact hev.1
         have hev2 : A2 (d9 p s data (e.args.take i)) (gf p s data (e.args.take i)) = true := by rw [hie,List.take_length]; exact hev.2
         refine tt ⟨⟨d8 _ rfl,(wV e.op (d9 p s data (e.args.take i)) e.k.n e.w.n hev1)⟩,tt ⟨⟨⟨rfl,oK⟩,⟨rfl,oK⟩,oK⟩,tt ⟨⟨d8 _ rfl,(DA e.op (d9 p s data (e.args.take i)) (gf p s data (e.args.take i)) [e.k.n,e.w.n] hev1 (by rw [wt,se]) hev2 rfl)⟩,tt ⟨⟨?_,?_,oK⟩,⟨oK,oK,oK⟩⟩⟩⟩⟩
         all_goals (first | exact (ge hc15).1.symm | exact (ge hc15).2.symm | exact (ep hc69).1.symm | exact (ep hc69).2.symm | exact (er hc35 hlen).1.symm | exact (er hc35 hlen).2.symm | (rw [hie,List.take_length]; exact (jx hc15 hc69 hc35).1.symm) | (rw [hie,List.take_length]; exact (jx hc15 hc69 hc35).2.symm))
theorem mh {c : Sc} {p : Pr} {s : Ps} {data : List Int} (ho : tL c p s data) (hmw : ∀ i,i < p.mems.length → ((s.mems.getD i []).length : Int) = (p.mems.getD i a5).words) : ∀ (n : Nat) (e : Ex) (v : Int),gi c e = some v → hT e ≤ n + 1 → CC (BD p s data n e)
  | 0,e,v,ht,hd => by
    have ha : e.args = [] := by
      cases hl : e.args with
      | nil => rfl
      | cons a r =>
        have := vg (e := e) (a := a) (by rw [hl]; simp)
        cases a with | mk op name k w args => rw [hT] at this; omega
    have h := E8 p s data 0 e c v ho ht hmw (fun a h => by rw [ha] at h; cases h)
    refine an.recast ?_ h
    refine ⟨wj _ rfl,⟨rfl,rfl,rfl,rfl,rfl,rfl,?_,oK⟩,oK⟩
    show e.args.map (eA 0) = e.args.map (eA 1)
    rw [ha]; rfl
  | n + 1,e,v,ht,hd => E8 p s data n e c v ho ht hmw (fun a h => by
    obtain ⟨w,hw⟩ := HM ht h
    exact mh ho hmw n a w hw (by have := vg h; omega))
abbrev DB (p : Pr) (s : Ps) (data : List Int) (e : Ex) : Ct := ⟨75,[(IE p s data),(.agg [(i6 e.op),(dS e.name),(i6 e.k.n),(dS e.k.p),(i6 e.w.n),(dS e.w.p),(dL 7 (eA 2) dE e.args)])],false,(dB (eT p s data e))⟩
theorem wW (p : Pr) (s : Ps) (data : List Int) (e : Ex) {c : Sc} {v : Int} (ho : tL c p s data) (hmw : ∀ i,i < p.mems.length → ((s.mems.getD i []).length : Int) = (p.mems.getD i a5).words) (ht : gi c e = some v) (hd : hT e ≤ 3) : CC (DB p s data e) := by
 refine an.vc (V := TT 5 (CC (BD p s data 2 e)∧TT 4 ((((br p s data e).1) == 1) = (eT p s data e)∧True))) (.w 1 [(2,(BD p s data 2 e).O)] <| .e) Tryz.func75 rfl rfl rfl (by kernel_rfl) ?_
 refine tt ⟨(mh ho hmw 2 e _ ht hd),tt ⟨?_,oK⟩⟩
 rfl
abbrev OC (p : Pr) (s : Ps) (hs : List Hd) (rs : List Bool) : Ct := ⟨74,[(E6 p),(.agg (oY s)),(.agg [(dL 2 bx aK hs),(LB rs)])],true,(.agg [(dS p.name),(dS p.clock),(dL 13 lL ci p.regs),(dL 27 tK a5 p.mems),(dL 9 kZ bM p.takes),(dL 16 gV bj p.puts),(LI s.regs),(dL 1 af [] s.mems),(LI (cB p s hs))])⟩
abbrev iU (p : Pr) (s : Ps) (hs : List Hd) (rs : List Bool) : Lp (Nat × List Int) := ku [3,5,6,7,8,9] 20 (fun (i : Nat) (dat : List Int) => ⟨[(3,jA),(5,(.ptr 2 0 0 0)),(6,(.ptr 3 0 0 0)),(7,(.ptr 11 0 0 0)),(8,(.ptr 19 0 0 0)),(9,(i6 (i : Int)))],[(qH p),(.var 45 (oY s)),(.var 121 [(dL 2 bx aK hs),(LB rs)]),(.var 156 [(dS e0),(dS e0),.nils,.nils,.nils,.nils,.nils,.nils,.nils]),.dead,.dead,.dead,.dead,.dead,.dead,.dead,(.var 156 [(dS p.name),(dS p.clock),(dL 13 lL ci p.regs),(dL 27 tK a5 p.mems),(dL 9 kZ bM p.takes),(dL 16 gV bj p.puts),(LI s.regs),(dL 1 af [] s.mems),(LI (kz p))]),.dead,.dead,.dead,.dead,.dead,(.arr 3 1 (ah .i64) 0 dat),.dead,(.var 156 [(dS p.name),(dS p.clock),(dL 13 lL ci p.regs),(dL 27 tK a5 p.mems),(dL 9 kZ bM p.takes),(dL 16 gV bj p.puts),(LI s.regs),(dL 1 af [] s.mems),(.own 17)])]⟩) (fun (i : Nat) (dat : List Int) => i ≤ p.takes.length∧dat = cP (nU p s hs) (kz p) i) (fun (i : Nat) (dat : List Int) => p.takes.length - i)
theorem DC (p : Pr) (s : Ps) (hs : List Hd) (rs : List Bool) (hp : iA p) (hso : rb p s) (hh : Ba p hs) : CC (OC p s hs rs) := by
 have ht1 := hp.tl
 have ht2 := hp.pl
 have hhl := hh.l
 have hmw := hso.mn
 have ho := jf hp hso (KA hp)
 refine an.vc (V := TT 9 ((((0 : Int) ≤ (p.takes.length : Int)∧(p.takes.length : Int) ≤ (p.takes.length : Int)∧(p.takes.length : Int) ≤ 137438953472)∧(kz p).length = p.takes.length∧∀ x ∈ (kz p),di [(i6 0)] ((ah .i64) x))∧TT 8 ((((0 : Int) ≤ (p.takes.length : Int)∧(p.takes.length : Int) ≤ (p.takes.length : Int)∧(p.takes.length : Int) ≤ 137438953472)∧(kz p).length = p.takes.length∧∀ x ∈ (kz p),di [(i6 0)] ((ah .i64) x))∧TT 4 (GO (iU p s hs rs) (0,kz p) (∀ i dat,(iU p s hs rs).inv (i,dat) → TT 5 (CD ((i : Int) < (p.takes.length : Int)) (CS ((eT p s (kz p) ((p.takes.getD i bM).when)) = true) (TT 4 (IX (i : Int) p.takes.length∧TT 2 (CC (DB p s (kz p) ((p.takes.getD i bM).when))∧(True∧(eT p s (kz p) ((p.takes.getD i bM).when)) = true)∧TT 3 (IX (i : Int) hs.length∧TT 3 (CB ((hs.getD i aK).has) (TT 6 (IX (i : Int) hs.length∧TT 2 (IX (i : Int) dat.length∧(i < dat.length∧(dat.map (ah .i64)).set i (((ah .i64) (dat.getD i 0)).take 0 ++ [(.int .i64 ((hs.getD i aK).v))] ++ ((ah .i64) (dat.getD i 0)).drop (0 + 1)) = (dat.set i ((hs.getD i aK).v)).map (ah .i64))∧TT 1 (W6 ((i + 1 : Nat) : Int)∧TT 1 (AG (iU p s hs rs) (i,dat) (i + 1,dat.set i ((hs.getD i aK).v))))))) (TT 1 (W6 ((i + 1 : Nat) : Int)∧TT 1 (AG (iU p s hs rs) (i,dat) (i + 1,dat))))))))) (TT 4 (IX (i : Int) p.takes.length∧TT 2 (CC (DB p s (kz p) ((p.takes.getD i bM).when))∧(True∧(eT p s (kz p) ((p.takes.getD i bM).when)) = false)∧TT 2 (W6 ((i + 1 : Nat) : Int)∧TT 1 (AG (iU p s hs rs) (i,dat) (i + 1,dat))))))) (TT 3 (p.name = p.name∧p.clock = p.clock∧p.regs.map lL = p.regs.map lL∧p.mems.map tK = p.mems.map tK∧p.takes.map kZ = p.takes.map kZ∧p.puts.map gV = p.puts.map gV∧s.regs.map (ah .i64) = s.regs.map (ah .i64)∧s.mems.map af = s.mems.map af∧dat.map (ah .i64) = (cB p s hs).map (ah .i64)∧True)))))))) (.w 1 [(5,.frz 3 1 (ah .i64) 0 (kz p))] <| .w 2 [(5,.box 3 1 (ah .i64) 0 (kz p))] <| .l (iU p s hs rs) (0,kz p) (fun ⟨i,dat⟩ => .b 28 (.s 6 ((eT p s (kz p) ((p.takes.getD i bM).when)) = true) (.w 6 [(7,(DB p s (kz p) ((p.takes.getD i bM).when)).O),(8,.val (dB true))] <| .b 46 (.w 7 [(10,.box 3 1 (ah .i64) 0 (dat.set i ((hs.getD i aK).v)))] <| .w 5 [(1,.val (i6 ((i + 1 : Nat) : Int)))] <| .e) (.w 5 [(1,.val (i6 ((i + 1 : Nat) : Int)))] <| .e)) (.w 6 [(7,(DB p s (kz p) ((p.takes.getD i bM).when)).O),(8,.val (dB false))] <| .w 5 [(1,.val (i6 ((i + 1 : Nat) : Int)))] <| .e)) (.e))) Tryz.func74 rfl rfl rfl (by kernel_rfl) ?_
 refine tt ⟨⟨by omega,ft,fun x hx => by rw [List.eq_of_mem_replicate hx]; exact ⟨rfl,oK⟩⟩,tt ⟨⟨by omega,ft,fun x hx => by rw [List.eq_of_mem_replicate hx]; exact ⟨rfl,oK⟩⟩,tt ⟨rfl,⟨by omega,rfl⟩,?_⟩⟩⟩
 intro i dat hinv
 obtain ⟨hi,hdat⟩ := hinv
 have hdl : dat.length = p.takes.length := by rw [hdat,ec (by rw [ft]; exact hi),ft]
 refine tt (cd (fun hc28 => ?_) (fun hc28 => ?_))
 · have hwh := vj hp (show i < p.takes.length by omega)
   refine ⟨fun hs0 => ?_,fun hs0 => ?_⟩
   · refine tt ⟨ix,tt ⟨(wW p s (kz p) ((p.takes.getD i bM).when) ho hmw hwh.1 hwh.2),⟨(bT hs0),tt ⟨ix,tt ⟨fun hc46 => ?_,fun hc46 => ?_⟩⟩⟩⟩⟩
     · refine tt ⟨ix,tt ⟨ix,⟨⟨om,by simp only [List.map_set]; rfl⟩,tt ⟨w6,tt ⟨(i + 1,dat.set i ((hs.getD i aK).v)),rfl,?_,(?_ : p.takes.length - (i + 1) < p.takes.length - i)⟩⟩⟩⟩⟩
       · exact ⟨by omega,by rw [hdat]; exact cr (by rw [ft]; omega) (JP hs0 hc46)⟩
       · omega
     · refine tt ⟨w6,tt ⟨(i + 1,dat),rfl,?_,(?_ : p.takes.length - (i + 1) < p.takes.length - i)⟩⟩
       · exact ⟨by omega,by rw [hdat]; exact ca (by rw [ft]; omega) (by first | exact ED (by assumption) | exact EE (by rw [hc46]; simp))⟩
       · omega
   · refine tt ⟨ix,tt ⟨(wW p s (kz p) ((p.takes.getD i bM).when) ho hmw hwh.1 hwh.2),⟨(bF hs0),tt ⟨w6,tt ⟨(i + 1,dat),rfl,?_,(?_ : p.takes.length - (i + 1) < p.takes.length - i)⟩⟩⟩⟩⟩
     · exact ⟨by omega,by rw [hdat]; exact ca (by rw [ft]; omega) (by first | exact ED (by assumption) | exact EE (by rw [hc46]; simp))⟩
     · omega
 · refine tt ⟨rfl,rfl,rfl,rfl,rfl,rfl,rfl,rfl,(congrArg _ (?_ : dat = (cB p s hs))),oK⟩
   rw [hdat,show i = p.takes.length by omega,dC (by rw [ft]; exact Nat.le_refl _)]; rfl
abbrev OD (p : Pr) (s : Ps) (data : List Int) : Ct := ⟨76,[(IE p s data)],true,(.agg [(LI ((db p s data).regs)),(dL 1 af [] ((db p s data).mems))])⟩
abbrev sI (p : Pr) (s : Ps) (data : List Int) : Lp (Nat) := fX [1,2,3,4] 4 (fun (i : Nat) => ⟨[(1,jA),(2,(.ptr 1 0 0 0)),(3,(.ptr 2 0 0 0)),(4,(i6 (i : Int)))],[(IC p s data),(.var 45 [.nils,.nils]),(.var 45 [(.own 3),.nils]),(.arr 3 1 (ah .i64) 0 (ao (fun z => (br p s data (p.regs.getD z ci).next).1) i))]⟩) (fun (i : Nat) => i ≤ p.regs.length) (fun (i : Nat) => p.regs.length - i)
abbrev oZ (p : Pr) (s : Ps) (data : List Int) (i : Nat) : Lp (Nat) := fX [1,2,3,5] 5 (fun (j : Nat) => ⟨[(1,jA),(2,(.ptr 1 0 0 0)),(3,(.ptr 2 0 0 0)),(5,(i6 (j : Int)))],[(IC p s data),(.var 45 [.nils,.nils]),(.var 45 [(.own 3),(.own 4)]),(.arr 3 1 (ah .i64) 0 (ao (fun z => (br p s data (p.regs.getD z ci).next).1) i)),(.arr 43 1 af [] (ao (s9 p s data) j))]⟩) (fun (j : Nat) => j ≤ p.mems.length) (fun (j : Nat) => p.mems.length - j)
theorem IG (p : Pr) (s : Ps) (data : List Int) (hp : iA p) (hso : rb p s) (hda : A9 p data) : CC (OD p s data) := by
 have hl1 := hp.rl
 have hl2 := hp.ml
 have hmw := hso.mn
 have ho := jf hp hso hda
 have hsl := hso.ml
 refine an.vc (V := TT 6 (GO (sI p s data) 0 (∀ i,(sI p s data).inv i → TT 6 (CD ((i : Int) < (p.regs.length : Int)) (TT 7 (IX (i : Int) p.regs.length∧TT 2 (CC (BD p s data 2 ((p.regs.getD i ci).next))∧TT 1 (aq [[(i6 ((br p s data ((p.regs.getD i ci).next)).1))]] ([(br p s data ((p.regs.getD i ci).next)).1].map (ah .i64))∧((ao (fun z => (br p s data (p.regs.getD z ci).next).1) i).length + ([(br p s data ((p.regs.getD i ci).next)).1].map (ah .i64)).length ≤ 137438953472∧(ao (fun z => (br p s data (p.regs.getD z ci).next).1) i).map (ah .i64) ++ [(br p s data ((p.regs.getD i ci).next)).1].map (ah .i64) = (ao (fun z => (br p s data (p.regs.getD z ci).next).1) (i + 1)).map (ah .i64))∧TT 3 (W6 ((i + 1 : Nat) : Int)∧TT 1 (AG (sI p s data) i (i + 1))))))) (TT 1 (GO (oZ p s data i) 0 (∀ j,(oZ p s data i).inv j → TT 6 (CD ((j : Int) < (p.mems.length : Int)) (TT 4 (IX (j : Int) p.mems.length∧TT 3 (aq [] (([] : List Int).map (ah .i64))∧TT 4 (IX (j : Int) s.mems.length∧TT 1 ((([] : List Int).length + ((s.mems.getD j []).map (ah .i64)).length ≤ 137438953472∧([] : List Int).map (ah .i64) ++ (s.mems.getD j []).map (ah .i64) = (s.mems.getD j []).map (ah .i64))∧TT 4 (CC (DB p s data ((p.mems.getD j a5).enable))∧CB (eT p s data ((p.mems.getD j a5).enable)) (TT 4 (CC (BD p s data 2 ((p.mems.getD j a5).addr))∧TT 3 (((p.mems.getD j a5).words) ≠ 0∧TT 3 (CC (BD p s data 2 ((p.mems.getD j a5).data))∧TT 1 (IX (Int.tmod ((br p s data ((p.mems.getD j a5).addr)).1) ((p.mems.getD j a5).words)) ((s.mems.getD j []).length)∧((Int.tmod ((br p s data ((p.mems.getD j a5).addr)).1) ((p.mems.getD j a5).words)).toNat < (s.mems.getD j []).length∧((s.mems.getD j []).map (ah .i64)).set ((Int.tmod ((br p s data ((p.mems.getD j a5).addr)).1) ((p.mems.getD j a5).words)).toNat) (((ah .i64) ((s.mems.getD j []).getD ((Int.tmod ((br p s data ((p.mems.getD j a5).addr)).1) ((p.mems.getD j a5).words)).toNat) 0)).take 0 ++ [(.int .i64 ((br p s data ((p.mems.getD j a5).data)).1))] ++ ((ah .i64) ((s.mems.getD j []).getD ((Int.tmod ((br p s data ((p.mems.getD j a5).addr)).1) ((p.mems.getD j a5).words)).toNat) 0)).drop (0 + 1)) = ((s.mems.getD j []).set ((Int.tmod ((br p s data ((p.mems.getD j a5).addr)).1) ((p.mems.getD j a5).words)).toNat) ((br p s data ((p.mems.getD j a5).data)).1)).map (ah .i64))∧TT 3 (aq [[(LI ((s.mems.getD j []).set ((Int.tmod ((br p s data ((p.mems.getD j a5).addr)).1) ((p.mems.getD j a5).words)).toNat) ((br p s data ((p.mems.getD j a5).data)).1)))]] ([(s.mems.getD j []).set ((Int.tmod ((br p s data ((p.mems.getD j a5).addr)).1) ((p.mems.getD j a5).words)).toNat) ((br p s data ((p.mems.getD j a5).data)).1)].map af)∧((ao (s9 p s data) j).length + ([(s.mems.getD j []).set ((Int.tmod ((br p s data ((p.mems.getD j a5).addr)).1) ((p.mems.getD j a5).words)).toNat) ((br p s data ((p.mems.getD j a5).data)).1)].map af).length ≤ 137438953472∧(ao (s9 p s data) j).map af ++ [(s.mems.getD j []).set ((Int.tmod ((br p s data ((p.mems.getD j a5).addr)).1) ((p.mems.getD j a5).words)).toNat) ((br p s data ((p.mems.getD j a5).data)).1)].map af = (ao (s9 p s data) (j + 1)).map af)∧TT 3 (W6 ((j + 1 : Nat) : Int)∧TT 1 (AG (oZ p s data i) j (j + 1))))))))) (TT 3 (aq [[(LI (s.mems.getD j []))]] ([s.mems.getD j []].map af)∧((ao (s9 p s data) j).length + ([s.mems.getD j []].map af).length ≤ 137438953472∧(ao (s9 p s data) j).map af ++ [s.mems.getD j []].map af = (ao (s9 p s data) (j + 1)).map af)∧TT 3 (W6 ((j + 1 : Nat) : Int)∧TT 1 (AG (oZ p s data i) j (j + 1))))))))))) (TT 3 ((ao (fun z => (br p s data (p.regs.getD z ci).next).1) i).map (ah .i64) = ((db p s data).regs).map (ah .i64)∧(ao (s9 p s data) j).map af = ((db p s data).mems).map af∧True)))))))))) (.g 2 2 0 3 1 (ah .i64) 0 <| .l (sI p s data) 0 (fun i => .b 14 (.w 5 [(10,(BD p s data 2 ((p.regs.getD i ci).next)).O),(12,.box 3 1 (ah .i64) 0 [(br p s data ((p.regs.getD i ci).next)).1]),(13,.box 3 1 (ah .i64) 0 (ao (fun z => (br p s data (p.regs.getD z ci).next).1) (i + 1)))] <| .w 4 [(1,.val (i6 ((i + 1 : Nat) : Int)))] <| .e) (.g 6 2 1 43 1 af [] <| .l (oZ p s data i) 0 (fun j => .b 37 (.w 10 [(0,.box 3 1 (ah .i64) 0 ([] : List Int)),(7,.box 3 1 (ah .i64) 0 (s.mems.getD j []))] <| .w 11 [(3,(DB p s data ((p.mems.getD j a5).enable)).O)] <| .b 57 (.w 12 [(4,(BD p s data 2 ((p.mems.getD j a5).addr)).O),(12,(BD p s data 2 ((p.mems.getD j a5).data)).O),(15,.box 3 1 (ah .i64) 0 ((s.mems.getD j []).set ((Int.tmod ((br p s data ((p.mems.getD j a5).addr)).1) ((p.mems.getD j a5).words)).toNat) ((br p s data ((p.mems.getD j a5).data)).1)))] <| .f 13 6 <| .w 13 [(3,.box 43 1 af [] [(s.mems.getD j []).set ((Int.tmod ((br p s data ((p.mems.getD j a5).addr)).1) ((p.mems.getD j a5).words)).toNat) ((br p s data ((p.mems.getD j a5).data)).1)]),(4,.box 43 1 af [] (ao (s9 p s data) (j + 1)))] <| .w 8 [(1,.val (i6 ((j + 1 : Nat) : Int)))] <| .e) (.f 13 6 <| .w 13 [(3,.box 43 1 af [] [s.mems.getD j []]),(4,.box 43 1 af [] (ao (s9 p s data) (j + 1)))] <| .w 8 [(1,.val (i6 ((j + 1 : Nat) : Int)))] <| .e)) (.e))))) Tryz.func76 rfl rfl rfl (by kernel_rfl) ?_
 refine tt ⟨rfl,(by omega),?_⟩
 intro i hinv
 have hi := hinv
 refine tt (cd (fun hc14 => ?_) (fun hc14 => ?_))
 · have hrn := hp.rw i (by omega)
   refine tt ⟨ix,tt ⟨(mh ho hmw 2 ((p.regs.getD i ci).next) _ hrn.2.2.1 hrn.2.2.2),tt ⟨⟨⟨rfl,oK⟩,oK⟩,⟨(i3 (f := fun z => (br p s data (p.regs.getD z ci).next).1) (by omega)),tt ⟨w6,tt ⟨(i + 1),rfl,(?_ : (i + 1) ≤ p.regs.length),(?_ : p.regs.length - (i + 1) < p.regs.length - i)⟩⟩⟩⟩⟩⟩
   · omega
   · omega
 · refine tt ⟨rfl,(by omega),?_⟩
   intro j hinv
   have hj := hinv
   refine tt (cd (fun hc37 => ?_) (fun hc37 => ?_))
   · have hmz : 1 ≤ (p.mems.getD j a5).words∧(p.mems.getD j a5).words ≤ 4 := (hp.mw j (by omega)).2.1
     have hml : ((s.mems.getD j []).length : Int) = (p.mems.getD j a5).words := hso.mn j (by omega)
     have hme := (hp.mw j (by omega)).2.2.1
     have hmb := (hp.mw j (by omega)).2.2.2
     obtain ⟨va,hma⟩ := hmb.1.1
     have had : 0 ≤ Int.tmod (br p s data (p.mems.getD j a5).addr).1 (p.mems.getD j a5).words∧Int.tmod (br p s data (p.mems.getD j a5).addr).1 (p.mems.getD j a5).words < (s.mems.getD j []).length∧(p.mems.getD j a5).words ≠ 0 := EG hp hso hda (show j < p.mems.length by omega)
     refine tt ⟨ix,tt ⟨oK,tt ⟨ix,tt ⟨⟨by simp only [List.length_map,List.length_nil]; omega,by simp⟩,tt ⟨(wW p s data ((p.mems.getD j a5).enable) ho hmw hme.1 hme.2),⟨fun hc57 => ?_,fun hc57 => ?_⟩⟩⟩⟩⟩⟩
     · refine tt ⟨(mh ho hmw 2 ((p.mems.getD j a5).addr) _ hma hmb.1.2),tt ⟨om,tt ⟨(mh ho hmw 2 ((p.mems.getD j a5).data) _ hmb.2.1 hmb.2.2),tt ⟨ix,⟨⟨om,by simp only [List.map_set]; rfl⟩,tt ⟨⟨⟨rfl,oK⟩,oK⟩,⟨(bS (by omega) (by first | exact zI hc57 | exact EF (by rw [hc57]; simp))),tt ⟨w6,tt ⟨(j + 1),rfl,(?_ : (j + 1) ≤ p.mems.length),(?_ : p.mems.length - (j + 1) < p.mems.length - j)⟩⟩⟩⟩⟩⟩⟩⟩⟩
       · omega
       · omega
     · refine tt ⟨⟨⟨rfl,oK⟩,oK⟩,⟨(bS (by omega) (by first | exact zI hc57 | exact EF (by rw [hc57]; simp))),tt ⟨w6,tt ⟨(j + 1),rfl,(?_ : (j + 1) ≤ p.mems.length),(?_ : p.mems.length - (j + 1) < p.mems.length - j)⟩⟩⟩⟩
       · omega
       · omega
   · refine tt ⟨(congrArg _ (?_ : (ao (fun z => (br p s data (p.regs.getD z ci).next).1) i) = ((db p s data).regs))),(congrArg _ (?_ : (ao (s9 p s data) j) = ((db p s data).mems))),oK⟩
     · rw [show i = p.regs.length by omega]; rfl
     · rw [show j = p.mems.length by omega]; rfl
abbrev OE (p : Pr) (s : Ps) (hs : List Hd) (rs : List Bool) : Ct := ⟨50,[(E6 p),(.agg (oY s)),(.agg [(dL 2 bx aK hs),(LB rs)])],true,(.agg [(dB ((aY p s hs rs).fires)),(LI (((aY p s hs rs).s).regs)),(dL 1 af [] (((aY p s hs rs).s).mems)),(LB ((aY p s hs rs).pops)),(dL 2 bx aK ((aY p s hs rs).puts))])⟩
abbrev ke (p : Pr) (s : Ps) (hs : List Hd) (rs : List Bool) : Lp (Nat × Bool) := ku [3,5,6,7,8,9] 16 (fun (i : Nat) (fir : Bool) => ⟨[(3,jA),(5,(.ptr 2 0 0 0)),(6,(.ptr 3 0 0 0)),(7,(.ptr 4 0 0 0)),(8,(.ptr 15 0 0 0)),(9,(i6 (i : Int)))],[(qH p),(.var 45 (oY s)),(.var 121 [(dL 2 bx aK hs),(LB rs)]),E7,(E5 p s hs),.dead,.dead,.dead,.dead,(.arr 4 1 aR false (List.replicate p.takes.length false)),.dead,.dead,.dead,(.arr 68 2 bx aK (List.replicate p.puts.length aK)),.dead,(.var 48 [(dB fir),(LI s.regs),(dL 1 af [] s.mems),(.own 9),(.own 13)])]⟩) (fun (i : Nat) (fir : Bool) => i ≤ p.takes.length∧fir = eo (jK p s hs) i) (fun (i : Nat) (fir : Bool) => p.takes.length - i)
abbrev kf (p : Pr) (s : Ps) (hs : List Hd) (rs : List Bool) (fir : Bool) : Lp (Nat × Bool) := ku [3,5,6,7,8,10] 16 (fun (m : Nat) (fi2 : Bool) => ⟨[(3,jA),(5,(.ptr 2 0 0 0)),(6,(.ptr 3 0 0 0)),(7,(.ptr 4 0 0 0)),(8,(.ptr 15 0 0 0)),(10,(i6 (m : Int)))],[(qH p),(.var 45 (oY s)),(.var 121 [(dL 2 bx aK hs),(LB rs)]),E7,(E5 p s hs),.dead,.dead,.dead,.dead,(.arr 4 1 aR false (List.replicate p.takes.length false)),.dead,.dead,.dead,(.arr 68 2 bx aK (List.replicate p.puts.length aK)),.dead,(.var 48 [(dB fi2),(LI s.regs),(dL 1 af [] s.mems),(.own 9),(.own 13)])]⟩) (fun (m : Nat) (fi2 : Bool) => m ≤ p.puts.length∧fi2 = (fir && eo (lY p s hs rs) m)) (fun (m : Nat) (fi2 : Bool) => p.puts.length - m)
abbrev p5 (p : Pr) (s : Ps) (hs : List Hd) (rs : List Bool) (fi2 : Bool) : Lp (Nat × List Bool) := ku [3,6,7,8,11] 16 (fun (q : Nat) (pop : List Bool) => ⟨[(3,jA),(6,(.ptr 3 0 0 0)),(7,(.ptr 4 0 0 0)),(8,(.ptr 15 0 0 0)),(11,(i6 (q : Int)))],[(qH p),(.var 45 (oY s)),(.var 121 [(dL 2 bx aK hs),(LB rs)]),E7,(E5 p s hs),.dead,.dead,.dead,.dead,(.arr 4 1 aR false pop),.dead,.dead,.dead,(.arr 68 2 bx aK (List.replicate p.puts.length aK)),.dead,(.var 48 [(dB fi2),(LI ((db p s (cB p s hs)).regs)),(dL 1 af [] ((db p s (cB p s hs)).mems)),(.own 9),(.own 13)])]⟩) (fun (q : Nat) (pop : List Bool) => q ≤ p.takes.length∧pop = cP (oG p s hs) (List.replicate p.takes.length false) q) (fun (q : Nat) (pop : List Bool) => p.takes.length - q)
abbrev mi (p : Pr) (s : Ps) (hs : List Hd) (rs : List Bool) (fi2 : Bool) (pop : List Bool) : Lp (Nat × List Hd) := ku [3,6,7,8,12] 16 (fun (t : Nat) (put : List Hd) => ⟨[(3,jA),(6,(.ptr 3 0 0 0)),(7,(.ptr 4 0 0 0)),(8,(.ptr 15 0 0 0)),(12,(i6 (t : Int)))],[(qH p),(.var 45 (oY s)),(.var 121 [(dL 2 bx aK hs),(LB rs)]),E7,(E5 p s hs),.dead,.dead,.dead,.dead,(.arr 4 1 aR false pop),.dead,.dead,.dead,(.arr 68 2 bx aK put),.dead,(.var 48 [(dB fi2),(LI ((db p s (cB p s hs)).regs)),(dL 1 af [] ((db p s (cB p s hs)).mems)),(.own 9),(.own 13)])]⟩) (fun (t : Nat) (put : List Hd) => t ≤ p.puts.length∧put = cP (oH p s hs) (List.replicate p.puts.length aK) t) (fun (t : Nat) (put : List Hd) => p.puts.length - t)
theorem Gt (p : Pr) (s : Ps) (hs : List Hd) (rs : List Bool) (hp : iA p) (hso : rb p s) (hh : Ba p hs) (hrs : rs.length = p.puts.length) : CC (OE p s hs rs) := by
 have ht1 := hp.tl
 have ht2 := hp.pl
 have hhl := hh.l
 have hmw := hso.mn
 have ho := jf hp hso (wy (s := s) (hs := hs) hp hh)
 have hda := wy (s := s) (hs := hs) hp hh
 refine an.vc (V := TT 7 (CC (OC p s hs rs)∧TT 6 ((((0 : Int) ≤ (p.takes.length : Int)∧(p.takes.length : Int) ≤ (p.takes.length : Int)∧(p.takes.length : Int) ≤ 137438953472)∧(List.replicate p.takes.length false).length = p.takes.length∧∀ x ∈ (List.replicate p.takes.length false),di [(dB false)] (aR x))∧TT 3 ((((0 : Int) ≤ (p.puts.length : Int)∧(p.puts.length : Int) ≤ (p.puts.length : Int)∧(p.puts.length : Int) ≤ 137438953472)∧(List.replicate p.puts.length aK).length = p.puts.length∧∀ x ∈ (List.replicate p.puts.length aK),di [(dB false),(i6 0)] (bx x))∧TT 4 (GO (ke p s hs rs) (0,true) (∀ i fir,(ke p s hs rs).inv (i,fir) → TT 5 (CD ((i : Int) < (p.takes.length : Int)) (CS (fir = true) (CS (((hs.getD i aK).has) = true) (TT 2 ((True∧fir = true)∧TT 3 (IX (i : Int) hs.length∧TT 2 ((True∧((hs.getD i aK).has) = true)∧TT 5 (W6 ((i + 1 : Nat) : Int)∧TT 1 (AG (ke p s hs rs) (i,fir) (i + 1,true))))))) (TT 2 ((True∧fir = true)∧TT 3 (IX (i : Int) hs.length∧TT 2 ((True∧((hs.getD i aK).has) = false)∧TT 4 (IX (i : Int) p.takes.length∧TT 2 (CC (DB p s (cB p s hs) ((p.takes.getD i bM).when))∧TT 6 (W6 ((i + 1 : Nat) : Int)∧TT 1 (AG (ke p s hs rs) (i,fir) (i + 1,!(eT p s (cB p s hs) ((p.takes.getD i bM).when)))))))))))) (TT 2 ((True∧fir = false)∧TT 4 (W6 ((i + 1 : Nat) : Int)∧TT 1 (AG (ke p s hs rs) (i,fir) (i + 1,false)))))) (TT 1 (GO (kf p s hs rs fir) (0,fir) (∀ m fi2,(kf p s hs rs fir).inv (m,fi2) → TT 5 (CD ((m : Int) < (p.puts.length : Int)) (CS (fi2 = true) (CS ((rs.getD m false) = true) (TT 2 ((True∧fi2 = true)∧TT 3 (IX (m : Int) rs.length∧TT 1 ((True∧(rs.getD m false) = true)∧TT 5 (W6 ((m + 1 : Nat) : Int)∧TT 1 (AG (kf p s hs rs fir) (m,fi2) (m + 1,true))))))) (TT 2 ((True∧fi2 = true)∧TT 3 (IX (m : Int) rs.length∧TT 1 ((True∧(rs.getD m false) = false)∧TT 4 (IX (m : Int) p.puts.length∧TT 2 (CC (DB p s (cB p s hs) ((p.puts.getD m bj).when))∧TT 6 (W6 ((m + 1 : Nat) : Int)∧TT 1 (AG (kf p s hs rs fir) (m,fi2) (m + 1,!(eT p s (cB p s hs) ((p.puts.getD m bj).when)))))))))))) (TT 2 ((True∧fi2 = false)∧TT 4 (W6 ((m + 1 : Nat) : Int)∧TT 1 (AG (kf p s hs rs fir) (m,fi2) (m + 1,false)))))) (TT 3 (CB (!fi2) (TT 3 (fi2 = ((aY p s hs rs).fires)∧s.regs.map (ah .i64) = (((aY p s hs rs).s).regs).map (ah .i64)∧s.mems.map af = (((aY p s hs rs).s).mems).map af∧(List.replicate p.takes.length false).map aR = ((aY p s hs rs).pops).map aR∧(List.replicate p.puts.length aK).map bx = ((aY p s hs rs).puts).map bx∧True)) (TT 1 (CC (OD p s (cB p s hs))∧TT 3 (GO (p5 p s hs rs fi2) (0,List.replicate p.takes.length false) (∀ q pop,(p5 p s hs rs fi2).inv (q,pop) → TT 5 (CD ((q : Int) < (p.takes.length : Int)) (TT 7 (IX (q : Int) p.takes.length∧TT 2 (CC (DB p s (cB p s hs) ((p.takes.getD q bM).when))∧IX (q : Int) pop.length∧(q < pop.length∧(pop.map aR).set q ((aR (pop.getD q false)).take 0 ++ [(.bool (eT p s (cB p s hs) ((p.takes.getD q bM).when)))] ++ (aR (pop.getD q false)).drop (0 + 1)) = (pop.set q (eT p s (cB p s hs) ((p.takes.getD q bM).when))).map aR)∧TT 1 (W6 ((q + 1 : Nat) : Int)∧TT 1 (AG (p5 p s hs rs fi2) (q,pop) (q + 1,pop.set q (eT p s (cB p s hs) ((p.takes.getD q bM).when)))))))) (TT 1 (GO (mi p s hs rs fi2 pop) (0,List.replicate p.puts.length aK) (∀ t put,(mi p s hs rs fi2 pop).inv (t,put) → TT 5 (CD ((t : Int) < (p.puts.length : Int)) (TT 4 (IX (t : Int) p.puts.length∧TT 2 (CC (DB p s (cB p s hs) ((p.puts.getD t bj).when))∧CB (eT p s (cB p s hs) ((p.puts.getD t bj).when)) (TT 7 (IX (t : Int) p.puts.length∧TT 2 (CC (BD p s (cB p s hs) 2 ((p.puts.getD t bj).data))∧TT 2 (IX (t : Int) put.length∧(t < put.length∧(put.map bx).set t ((bx (put.getD t aK)).take 0 ++ [(.bool true),(.int .i64 ((br p s (cB p s hs) ((p.puts.getD t bj).data)).1))] ++ (bx (put.getD t aK)).drop (0 + 2)) = (put.set t (⟨true,(br p s (cB p s hs) ((p.puts.getD t bj).data)).1⟩ : Hd)).map bx)∧TT 1 (W6 ((t + 1 : Nat) : Int)∧TT 1 (AG (mi p s hs rs fi2 pop) (t,put) (t + 1,put.set t (⟨true,(br p s (cB p s hs) ((p.puts.getD t bj).data)).1⟩ : Hd)))))))) (TT 1 (W6 ((t + 1 : Nat) : Int)∧TT 1 (AG (mi p s hs rs fi2 pop) (t,put) (t + 1,put))))))) (TT 3 (fi2 = ((aY p s hs rs).fires)∧((db p s (cB p s hs)).regs).map (ah .i64) = (((aY p s hs rs).s).regs).map (ah .i64)∧((db p s (cB p s hs)).mems).map af = (((aY p s hs rs).s).mems).map af∧pop.map aR = ((aY p s hs rs).pops).map aR∧put.map bx = ((aY p s hs rs).puts).map bx∧True)))))))))))))))))))))))) (.w 1 [(3,(OC p s hs rs).O)] <| .w 2 [(4,.box 4 1 aR false (List.replicate p.takes.length false)),(8,.box 68 2 bx aK (List.replicate p.puts.length aK))] <| .l (ke p s hs rs) (0,true) (fun ⟨i,fir⟩ => .b 31 (.s 6 (fir = true) (.s 6 (((hs.getD i aK).has) = true) (.w 6 [(2,.val (dB true)),(9,.val (dB true))] <| .w 5 [(1,.val (i6 ((i + 1 : Nat) : Int)))] <| .e) (.w 6 [(2,.val (dB true)),(9,.val (dB false)),(17,(DB p s (cB p s hs) ((p.takes.getD i bM).when)).O)] <| .w 5 [(1,.val (i6 ((i + 1 : Nat) : Int)))] <| .e)) (.w 6 [(2,.val (dB false))] <| .w 5 [(1,.val (i6 ((i + 1 : Nat) : Int)))] <| .e)) (.l (kf p s hs rs fir) (0,fir) (fun ⟨m,fi2⟩ => .b 60 (.s 10 (fi2 = true) (.s 10 ((rs.getD m false) = true) (.w 10 [(2,.val (dB true)),(8,.val (dB true))] <| .w 9 [(1,.val (i6 ((m + 1 : Nat) : Int)))] <| .e) (.w 10 [(2,.val (dB true)),(8,.val (dB false)),(16,(DB p s (cB p s hs) ((p.puts.getD m bj).when)).O)] <| .w 9 [(1,.val (i6 ((m + 1 : Nat) : Int)))] <| .e)) (.w 10 [(2,.val (dB false))] <| .w 9 [(1,.val (i6 ((m + 1 : Nat) : Int)))] <| .e)) (.b 86 (.e) (.w 13 [(1,(OD p s (cB p s hs)).O)] <| .l (p5 p s hs rs fi2) (0,List.replicate p.takes.length false) (fun ⟨q,pop⟩ => .b 95 (.w 17 [(10,(DB p s (cB p s hs) ((p.takes.getD q bM).when)).O),(12,.box 4 1 aR false (pop.set q (eT p s (cB p s hs) ((p.takes.getD q bM).when))))] <| .w 16 [(1,.val (i6 ((q + 1 : Nat) : Int)))] <| .e) (.l (mi p s hs rs fi2 pop) (0,List.replicate p.puts.length aK) (fun ⟨t,put⟩ => .b 114 (.w 21 [(7,(DB p s (cB p s hs) ((p.puts.getD t bj).when)).O)] <| .b 124 (.w 22 [(10,(BD p s (cB p s hs) 2 ((p.puts.getD t bj).data)).O),(14,.box 68 2 bx aK (put.set t (⟨true,(br p s (cB p s hs) ((p.puts.getD t bj).data)).1⟩ : Hd)))] <| .w 20 [(1,.val (i6 ((t + 1 : Nat) : Int)))] <| .e) (.w 20 [(1,.val (i6 ((t + 1 : Nat) : Int)))] <| .e)) (.e)))))))))) Tryz.func50 rfl rfl rfl (by kernel_rfl) ?_
 refine tt ⟨(DC p s hs rs hp hso hh),tt ⟨⟨by omega,List.length_replicate,fun x hx => by rw [List.eq_of_mem_replicate hx]; exact ⟨rfl,oK⟩⟩,tt ⟨⟨by omega,List.length_replicate,fun x hx => by rw [List.eq_of_mem_replicate hx]; exact ⟨rfl,rfl,oK⟩⟩,tt ⟨rfl,⟨by omega,rfl⟩,?_⟩⟩⟩⟩
 intro i fir hinv
 obtain ⟨hi,hfir⟩ := hinv
 refine tt (cd (fun hc31 => ?_) (fun hc31 => ?_))
 · have hwh := vj hp (show i < p.takes.length by omega)
   refine ⟨fun hs0 => ?_,fun hs0 => ?_⟩
   · refine ⟨fun hs1 => ?_,fun hs1 => ?_⟩
     · refine tt ⟨(bT hs0),tt ⟨ix,tt ⟨(bT hs1),tt ⟨w6,tt ⟨(i + 1,true),rfl,?_,(?_ : p.takes.length - (i + 1) < p.takes.length - i)⟩⟩⟩⟩⟩
       · exact ⟨by omega,oI hfir _ (by unfold jK; clear hfir; cases fir <;> simp_all)⟩
       · omega
     · refine tt ⟨(bT hs0),tt ⟨ix,tt ⟨(bF hs1),tt ⟨ix,tt ⟨(wW p s (cB p s hs) ((p.takes.getD i bM).when) ho hmw hwh.1 hwh.2),tt ⟨w6,tt ⟨(i + 1,!(eT p s (cB p s hs) ((p.takes.getD i bM).when))),rfl,?_,(?_ : p.takes.length - (i + 1) < p.takes.length - i)⟩⟩⟩⟩⟩⟩⟩
       · exact ⟨by omega,oI hfir _ (by unfold jK; clear hfir; cases fir <;> simp_all)⟩
       · omega
   · refine tt ⟨(bF hs0),tt ⟨w6,tt ⟨(i + 1,false),rfl,?_,(?_ : p.takes.length - (i + 1) < p.takes.length - i)⟩⟩⟩
     · exact ⟨by omega,oI hfir _ (by unfold jK; clear hfir; cases fir <;> simp_all)⟩
     · omega
 · refine tt ⟨rfl,⟨by omega,by simp [eo]⟩,?_⟩
   intro m fi2 hinv
   obtain ⟨hm,hfi2⟩ := hinv
   refine tt (cd (fun hc60 => ?_) (fun hc60 => ?_))
   · have hpw := hp.pw m (by omega)
     refine ⟨fun hs2 => ?_,fun hs2 => ?_⟩
     · refine ⟨fun hs3 => ?_,fun hs3 => ?_⟩
       · refine tt ⟨(bT hs2),tt ⟨ix,tt ⟨(bT hs3),tt ⟨w6,tt ⟨(m + 1,true),rfl,?_,(?_ : p.puts.length - (m + 1) < p.puts.length - m)⟩⟩⟩⟩⟩
         · exact ⟨by omega,tP hfi2 _ (by unfold lY; clear hfi2 hfir; cases fi2 <;> simp_all)⟩
         · omega
       · refine tt ⟨(bT hs2),tt ⟨ix,tt ⟨(bF hs3),tt ⟨ix,tt ⟨(wW p s (cB p s hs) ((p.puts.getD m bj).when) ho hmw hpw.2.1.1 hpw.2.1.2),tt ⟨w6,tt ⟨(m + 1,!(eT p s (cB p s hs) ((p.puts.getD m bj).when))),rfl,?_,(?_ : p.puts.length - (m + 1) < p.puts.length - m)⟩⟩⟩⟩⟩⟩⟩
         · exact ⟨by omega,tP hfi2 _ (by unfold lY; clear hfi2 hfir; cases fi2 <;> simp_all)⟩
         · omega
     · refine tt ⟨(bF hs2),tt ⟨w6,tt ⟨(m + 1,false),rfl,?_,(?_ : p.puts.length - (m + 1) < p.puts.length - m)⟩⟩⟩
       · exact ⟨by omega,tP hfi2 _ (by unfold lY; clear hfi2 hfir; cases fi2 <;> simp_all)⟩
       · omega
   · have hie : i = p.takes.length := by omega
     have hme : m = p.puts.length := by omega
     refine tt ⟨fun hc86 => ?_,fun hc86 => ?_⟩
     · refine tt ⟨?_,(congrArg _ (?_ : s.regs = (((aY p s hs rs).s).regs))),(congrArg _ (?_ : s.mems = (((aY p s hs rs).s).mems))),(congrArg _ (?_ : (List.replicate p.takes.length false) = ((aY p s hs rs).pops))),(congrArg _ (?_ : (List.replicate p.puts.length aK) = ((aY p s hs rs).puts))),oK⟩
       all_goals
         rw [EA (by rw [py (rs := rs) (a := fir) (b := fi2) (by rw [hfir,hie]) (by rw [hfi2,hme])]; simpa using hc86)]
         first | done | rfl | simpa using hc86
     · refine tt ⟨(IG p s (cB p s hs) hp hso hda),tt ⟨rfl,⟨by omega,rfl⟩,?_⟩⟩
       intro q pop hinv
       obtain ⟨hq,hpop⟩ := hinv
       have hpl : pop.length = p.takes.length := by rw [hpop,ec (by rw [List.length_replicate]; exact hq),List.length_replicate]
       refine tt (cd (fun hc95 => ?_) (fun hc95 => ?_))
       · have hwh := vj hp (show q < p.takes.length by omega)
         refine tt ⟨ix,tt ⟨(wW p s (cB p s hs) ((p.takes.getD q bM).when) ho hmw hwh.1 hwh.2),⟨ix,⟨⟨om,by simp only [List.map_set]; rfl⟩,tt ⟨w6,tt ⟨(q + 1,pop.set q (eT p s (cB p s hs) ((p.takes.getD q bM).when))),rfl,?_,(?_ : p.takes.length - (q + 1) < p.takes.length - q)⟩⟩⟩⟩⟩⟩
         · exact ⟨by omega,by rw [hpop]; exact cr (by rw [List.length_replicate]; omega) rfl⟩
         · omega
       · refine tt ⟨rfl,⟨by omega,rfl⟩,?_⟩
         intro t put hinv
         obtain ⟨ht,hput⟩ := hinv
         have hql : put.length = p.puts.length := by rw [hput,ec (by rw [List.length_replicate]; exact ht),List.length_replicate]
         refine tt (cd (fun hc114 => ?_) (fun hc114 => ?_))
         · have hpw := hp.pw t (by omega)
           refine tt ⟨ix,tt ⟨(wW p s (cB p s hs) ((p.puts.getD t bj).when) ho hmw hpw.2.1.1 hpw.2.1.2),⟨fun hc124 => ?_,fun hc124 => ?_⟩⟩⟩
           · refine tt ⟨ix,tt ⟨(mh ho hmw 2 ((p.puts.getD t bj).data) _ hpw.2.2.1 hpw.2.2.2),tt ⟨ix,⟨⟨om,by simp only [List.map_set]; rfl⟩,tt ⟨w6,tt ⟨(t + 1,put.set t (⟨true,(br p s (cB p s hs) ((p.puts.getD t bj).data)).1⟩ : Hd)),rfl,?_,(?_ : p.puts.length - (t + 1) < p.puts.length - t)⟩⟩⟩⟩⟩⟩
             · exact ⟨by omega,by rw [hput]; exact cr (by rw [List.length_replicate]; omega) (if_pos hc124)⟩
             · omega
           · refine tt ⟨w6,tt ⟨(t + 1,put),rfl,?_,(?_ : p.puts.length - (t + 1) < p.puts.length - t)⟩⟩
             · exact ⟨by omega,by rw [hput]; exact ca (d := aK) (by rw [List.length_replicate]; omega) ((if_neg (by rw [hc124]; simp)).trans ct.symm)⟩
             · omega
         · refine tt ⟨?_,(congrArg _ (?_ : ((db p s (cB p s hs)).regs) = (((aY p s hs rs).s).regs))),(congrArg _ (?_ : ((db p s (cB p s hs)).mems) = (((aY p s hs rs).s).mems))),(congrArg _ (?_ : pop = ((aY p s hs rs).pops))),(congrArg _ (?_ : put = ((aY p s hs rs).puts))),oK⟩
           all_goals
             rw [zH (by rw [py (rs := rs) (a := fir) (b := fi2) (by rw [hfir,hie]) (by rw [hfi2,hme])]; simpa using hc86)]
             first | done | (simpa using hc86) | (rw [hpop,show q = p.takes.length by omega,dC (by rw [List.length_replicate]; exact Nat.le_refl _)]) | (rw [hput,show t = p.puts.length by omega,dC (by rw [List.length_replicate]; exact Nat.le_refl _)])
abbrev qt (a b : List Int) : Ct := ⟨18,[(LI a),(LI b)],false,(dB (decide (a = b)))⟩
abbrev vy (a : List Int) (b : List Int) : Lp (Nat) := fX [0,1,5] 0 (fun (k : Nat) => ⟨[(0,(LI a)),(1,(LI b)),(5,(i6 (k : Int)))],[]⟩) (fun (k : Nat) => k ≤ a.length∧∀ z,z < k → a.getD z 0 = b.getD z 0) (fun (k : Nat) => a.length - k)
theorem ex (a b : List Int) (ha : a.length ≤ 9223372036854775807) : CC (qt a b) := by
 refine an.vc (V := TT 6 (CN ((a.length : Int) = (b.length : Int)) (TT 2 (false = (decide (a = b))∧True)) (TT 1 (GO (vy a b) 0 (∀ k,(vy a b).inv k → TT 4 (CD ((k : Int) < (a.length : Int)) (TT 2 (IX (k : Int) a.length∧TT 3 (IX (k : Int) b.length∧TT 2 (CN ((a.getD k 0) = (b.getD k 0)) (TT 2 (false = (decide (a = b))∧True)) (TT 1 (W6 ((k + 1 : Nat) : Int)∧TT 1 (AG (vy a b) k (k + 1)))))))) (TT 2 (true = (decide (a = b))∧True)))))))) (.b 10 (.e) (.l (vy a b) 0 (fun k => .b 14 (.b 25 (.e) (.w 5 [(1,.val (i6 ((k + 1 : Nat) : Int)))] <| .e)) (.e)))) Tryz.func18 rfl rfl rfl (by kernel_rfl) ?_
 refine tt (cn (fun hc10 => ?_) (fun hc10 => ?_))
 · refine tt ⟨?_,oK⟩
   first | exact (decide_eq_false (fun e => by subst e; omega)).symm | exact (decide_eq_false (same_no (k := k) (by simpa using hc25))).symm | exact (decide_eq_true (cF (by omega) (by omega) hall)).symm
 · refine tt ⟨rfl,⟨by omega,fun z hz => by omega⟩,?_⟩
   intro k hinv
   obtain ⟨hk,hall⟩ := hinv
   refine tt (cd (fun hc14 => ?_) (fun hc14 => ?_))
   · refine tt ⟨ix,tt ⟨ix,tt (cn (fun hc25 => ?_) (fun hc25 => ?_))⟩⟩
     · refine tt ⟨?_,oK⟩
       first | exact (decide_eq_false (fun e => by subst e; omega)).symm | exact (decide_eq_false (same_no (k := k) (by simpa using hc25))).symm | exact (decide_eq_true (cF (by omega) (by omega) hall)).symm
     · refine tt ⟨w6,tt ⟨(k + 1),rfl,?_,(?_ : a.length - (k + 1) < a.length - k)⟩⟩
       · exact ⟨by omega,cy hall (by simpa using hc25)⟩
       · omega
   · refine tt ⟨?_,oK⟩
     first | exact (decide_eq_false (fun e => by subst e; omega)).symm | exact (decide_eq_false (same_no (k := k) (by simpa using hc25))).symm | exact (decide_eq_true (cF (by omega) (by omega) hall)).symm
abbrev ud (a b : Ps) : Ct := ⟨17,[(.agg [(LI a.regs),(dL 1 af [] a.mems)]),(.agg [(LI b.regs),(dL 1 af [] b.mems)])],false,(dB (cf a b))⟩
abbrev p6 (a : Ps) (b : Ps) : Lp (Nat) := fX [2,3,5] 2 (fun (k : Nat) => ⟨[(2,jA),(3,(.ptr 1 0 0 0)),(5,(i6 (k : Int)))],[(.var 45 [(LI a.regs),(dL 1 af [] a.mems)]),(.var 45 [(LI b.regs),(dL 1 af [] b.mems)])]⟩) (fun (k : Nat) => k ≤ a.mems.length∧∀ z,z < k → a.mems.getD z [] = b.mems.getD z []) (fun (k : Nat) => a.mems.length - k)
theorem dG (a b : Ps) (ha : a.regs.length ≤ 9223372036854775807) (hb : a.mems.length ≤ 9223372036854775807) (hc : ∀ i,(a.mems.getD i []).length ≤ 9223372036854775807) : CC (ud a b) := by
 refine an.vc (V := TT 3 (CS (a.regs = b.regs) (TT 4 (CC (qt a.regs b.regs)∧TT 1 ((True∧(!decide (a.regs = b.regs)) = false)∧TT 8 (CN ((a.mems.length : Int) = (b.mems.length : Int)) (TT 2 (false = (cf a b)∧True)) (TT 1 (GO (p6 a b) 0 (∀ k,(p6 a b).inv k → TT 5 (CD ((k : Int) < (a.mems.length : Int)) (TT 3 (IX (k : Int) a.mems.length∧TT 4 (IX (k : Int) b.mems.length∧TT 1 (CC (qt (a.mems.getD k []) (b.mems.getD k []))∧TT 1 (CN ((a.mems.getD k []) = (b.mems.getD k [])) (TT 2 (false = (cf a b)∧True)) (TT 1 (W6 ((k + 1 : Nat) : Int)∧TT 1 (AG (p6 a b) k (k + 1))))))))) (TT 2 (true = (cf a b)∧True)))))))))) (TT 4 (CC (qt a.regs b.regs)∧TT 1 ((True∧(!decide (a.regs = b.regs)) = true)∧TT 10 (false = (cf a b)∧True)))))) (.s 1 (a.regs = b.regs) (.w 1 [(4,(qt a.regs b.regs).O),(6,.val (dB false))] <| .b 20 (.e) (.l (p6 a b) 0 (fun k => .b 25 (.w 6 [(10,(qt (a.mems.getD k []) (b.mems.getD k [])).O)] <| .b 39 (.e) (.w 5 [(1,.val (i6 ((k + 1 : Nat) : Int)))] <| .e)) (.e)))) (.w 1 [(4,(qt a.regs b.regs).O),(6,.val (dB true))] <| .e)) Tryz.func17 rfl rfl rfl (by kernel_rfl) ?_
 refine tt ⟨fun hs0 => ?_,fun hs0 => ?_⟩
 · refine tt ⟨(ex a.regs b.regs ha),tt ⟨(nF hs0),tt (cn (fun hc20 => ?_) (fun hc20 => ?_))⟩⟩
   · refine tt ⟨?_,oK⟩
     first | exact (mL (by simpa using hs0)).symm | exact (mM (by omega)).symm | exact (mN (i := k) (by simpa using hc39)).symm | exact (mO (by simpa using hs0) (cF (by omega) (by omega) hall)).symm
   · refine tt ⟨rfl,⟨by omega,fun z hz => by omega⟩,?_⟩
     intro k hinv
     obtain ⟨hk,hall⟩ := hinv
     refine tt (cd (fun hc25 => ?_) (fun hc25 => ?_))
     · refine tt ⟨ix,tt ⟨ix,tt ⟨(ex (a.mems.getD k []) (b.mems.getD k []) (hc k)),tt (cn (fun hc39 => ?_) (fun hc39 => ?_))⟩⟩⟩
       · refine tt ⟨?_,oK⟩
         first | exact (mL (by simpa using hs0)).symm | exact (mM (by omega)).symm | exact (mN (i := k) (by simpa using hc39)).symm | exact (mO (by simpa using hs0) (cF (by omega) (by omega) hall)).symm
       · refine tt ⟨w6,tt ⟨(k + 1),rfl,?_,(?_ : a.mems.length - (k + 1) < a.mems.length - k)⟩⟩
         · exact ⟨by omega,cy hall (by simpa using hc39)⟩
         · omega
     · refine tt ⟨?_,oK⟩
       first | exact (mL (by simpa using hs0)).symm | exact (mM (by omega)).symm | exact (mN (i := k) (by simpa using hc39)).symm | exact (mO (by simpa using hs0) (cF (by omega) (by omega) hall)).symm
 · refine tt ⟨(ex a.regs b.regs ha),tt ⟨(nT hs0),tt ⟨?_,oK⟩⟩⟩
   first | exact (mL (by simpa using hs0)).symm | exact (mM (by omega)).symm | exact (mN (i := k) (by simpa using hc39)).symm | exact (mO (by simpa using hs0) (cF (by omega) (by omega) hall)).symm
abbrev OG (a b : Fi) : Ct := ⟨21,[(.agg [(dB a.fires),(LI a.s.regs),(dL 1 af [] a.s.mems),(LB a.pops),(dL 2 bx aK a.puts)]),(.agg [(dB b.fires),(LI b.s.regs),(dL 1 af [] b.s.mems),(LB b.pops),(dL 2 bx aK b.puts)])],false,(dB (eM a b))⟩
abbrev p7 (a : Fi) (b : Fi) : Lp (Nat) := fX [2,3,5] 2 (fun (k : Nat) => ⟨[(2,jA),(3,(.ptr 1 0 0 0)),(5,(i6 (k : Int)))],[(.var 48 [(dB a.fires),(LI a.s.regs),(dL 1 af [] a.s.mems),(LB a.pops),(dL 2 bx aK a.puts)]),(.var 48 [(dB b.fires),(LI b.s.regs),(dL 1 af [] b.s.mems),(LB b.pops),(dL 2 bx aK b.puts)])]⟩) (fun (k : Nat) => k ≤ a.pops.length∧∀ z,z < k → a.pops.getD z false = b.pops.getD z false) (fun (k : Nat) => a.pops.length - k)
abbrev p8 (a : Fi) (b : Fi) : Lp (Nat) := fX [2,3,6] 2 (fun (m : Nat) => ⟨[(2,jA),(3,(.ptr 1 0 0 0)),(6,(i6 (m : Int)))],[(.var 48 [(dB a.fires),(LI a.s.regs),(dL 1 af [] a.s.mems),(LB a.pops),(dL 2 bx aK a.puts)]),(.var 48 [(dB b.fires),(LI b.s.regs),(dL 1 af [] b.s.mems),(LB b.pops),(dL 2 bx aK b.puts)])]⟩) (fun (m : Nat) => m ≤ a.puts.length∧∀ z,z < m → ii (a.puts.getD z aK) (b.puts.getD z aK) = true) (fun (m : Nat) => a.puts.length - m)
theorem Gu (a b : Fi) (ha : a.s.regs.length ≤ 9223372036854775807) (hb : a.s.mems.length ≤ 9223372036854775807) (hc : ∀ i,(a.s.mems.getD i []).length ≤ 9223372036854775807) (hd : a.pops.length ≤ 9223372036854775807) (he : a.puts.length ≤ 9223372036854775807) : CC (OG a b) := by
 refine an.vc (V := TT 3 (CS (a.fires = b.fires) (CS ((cf a.s b.s) = true) (CS ((a.pops.length : Int) = (b.pops.length : Int)) (TT 5 ((True∧(!decide (a.fires = b.fires)) = false)∧TT 4 (CC (ud a.s b.s)∧TT 2 ((True∧(!(cf a.s b.s)) = false)∧TT 8 ((True∧(!decide ((a.pops.length : Int) = (b.pops.length : Int))) = false)∧TT 8 (CN ((a.puts.length : Int) = (b.puts.length : Int)) (TT 2 (false = (eM a b)∧True)) (TT 1 (GO (p7 a b) 0 (∀ k,(p7 a b).inv k → TT 5 (CD ((k : Int) < (a.pops.length : Int)) (TT 3 (IX (k : Int) a.pops.length∧TT 4 (IX (k : Int) b.pops.length∧TT 2 (CB (!((a.pops.getD k false) == (b.pops.getD k false))) (TT 2 (false = (eM a b)∧True)) (TT 1 (W6 ((k + 1 : Nat) : Int)∧TT 1 (AG (p7 a b) k (k + 1)))))))) (TT 1 (GO (p8 a b) 0 (∀ m,(p8 a b).inv m → TT 5 (CD ((m : Int) < (a.puts.length : Int)) (TT 3 (IX (m : Int) a.puts.length∧TT 4 (IX (m : Int) b.puts.length∧TT 2 (CB (!((((a.puts.getD m aK).has) == ((b.puts.getD m aK).has)) && (((a.puts.getD m aK).v) == ((b.puts.getD m aK).v)))) (TT 2 (false = (eM a b)∧True)) (TT 1 (W6 ((m + 1 : Nat) : Int)∧TT 1 (AG (p8 a b) m (m + 1)))))))) (TT 2 (true = (eM a b)∧True)))))))))))))))) (TT 5 ((True∧(!decide (a.fires = b.fires)) = false)∧TT 4 (CC (ud a.s b.s)∧TT 2 ((True∧(!(cf a.s b.s)) = false)∧TT 8 ((True∧(!decide ((a.pops.length : Int) = (b.pops.length : Int))) = true)∧TT 10 (false = (eM a b)∧True))))))) (TT 5 ((True∧(!decide (a.fires = b.fires)) = false)∧TT 4 (CC (ud a.s b.s)∧TT 2 ((True∧(!(cf a.s b.s)) = true)∧TT 19 (false = (eM a b)∧True)))))) (TT 5 ((True∧(!decide (a.fires = b.fires)) = true)∧TT 27 (false = (eM a b)∧True))))) (.s 1 (a.fires = b.fires) (.s 1 ((cf a.s b.s) = true) (.s 1 ((a.pops.length : Int) = (b.pops.length : Int)) (.w 1 [(5,.val (dB false)),(10,(ud a.s b.s).O),(13,.val (dB false)),(22,.val (dB false))] <| .b 37 (.e) (.l (p7 a b) 0 (fun k => .b 42 (.b 55 (.e) (.w 5 [(1,.val (i6 ((k + 1 : Nat) : Int)))] <| .e)) (.l (p8 a b) 0 (fun m => .b 60 (.b 73 (.e) (.w 10 [(1,.val (i6 ((m + 1 : Nat) : Int)))] <| .e)) (.e)))))) (.w 1 [(5,.val (dB false)),(10,(ud a.s b.s).O),(13,.val (dB false)),(22,.val (dB true))] <| .e)) (.w 1 [(5,.val (dB false)),(10,(ud a.s b.s).O),(13,.val (dB true))] <| .e)) (.w 1 [(5,.val (dB true))] <| .e)) Tryz.func21 rfl rfl rfl (by kernel_rfl) ?_
 refine tt ⟨fun hs0 => ?_,fun hs0 => ?_⟩
 · refine ⟨fun hs1 => ?_,fun hs1 => ?_⟩
   · refine ⟨fun hs2 => ?_,fun hs2 => ?_⟩
     · refine tt ⟨(nF hs0),tt ⟨(dG a.s b.s ha hb hc),tt ⟨(mF hs1),tt ⟨(nF hs2),tt (cn (fun hc37 => ?_) (fun hc37 => ?_))⟩⟩⟩⟩
       · refine tt ⟨?_,oK⟩
         first | exact (gH (by simpa using hs0)).symm | exact (gI (by simpa using hs1)).symm | exact (gJ (by omega)).symm | exact (gK (by omega)).symm | exact (gL (i := k) (by simpa using hc55)).symm | exact (gM (i := m) (by unfold ii; rw [Bool.not_eq_eq_eq_not,Bool.not_true] at hc73; exact hc73)).symm | exact (gN (by simpa using hs0) (by simpa using hs1) (cF (by omega) (by omega) hall) (by omega) (fun z hz => hal2 z (by omega))).symm
       · refine tt ⟨rfl,⟨by omega,fun z hz => by omega⟩,?_⟩
         intro k hinv
         obtain ⟨hk,hall⟩ := hinv
         refine tt (cd (fun hc42 => ?_) (fun hc42 => ?_))
         · refine tt ⟨ix,tt ⟨ix,tt ⟨fun hc55 => ?_,fun hc55 => ?_⟩⟩⟩
           · refine tt ⟨?_,oK⟩
             first | exact (gH (by simpa using hs0)).symm | exact (gI (by simpa using hs1)).symm | exact (gJ (by omega)).symm | exact (gK (by omega)).symm | exact (gL (i := k) (by simpa using hc55)).symm | exact (gM (i := m) (by unfold ii; rw [Bool.not_eq_eq_eq_not,Bool.not_true] at hc73; exact hc73)).symm | exact (gN (by simpa using hs0) (by simpa using hs1) (cF (by omega) (by omega) hall) (by omega) (fun z hz => hal2 z (by omega))).symm
           · refine tt ⟨w6,tt ⟨(k + 1),rfl,?_,(?_ : a.pops.length - (k + 1) < a.pops.length - k)⟩⟩
             · exact ⟨by omega,cy hall (by simpa using hc55)⟩
             · omega
         · refine tt ⟨rfl,⟨by omega,fun z hz => by omega⟩,?_⟩
           intro m hinv
           obtain ⟨hm,hal2⟩ := hinv
           refine tt (cd (fun hc60 => ?_) (fun hc60 => ?_))
           · refine tt ⟨ix,tt ⟨ix,tt ⟨fun hc73 => ?_,fun hc73 => ?_⟩⟩⟩
             · refine tt ⟨?_,oK⟩
               first | exact (gH (by simpa using hs0)).symm | exact (gI (by simpa using hs1)).symm | exact (gJ (by omega)).symm | exact (gK (by omega)).symm | exact (gL (i := k) (by simpa using hc55)).symm | exact (gM (i := m) (by unfold ii; rw [Bool.not_eq_eq_eq_not,Bool.not_true] at hc73; exact hc73)).symm | exact (gN (by simpa using hs0) (by simpa using hs1) (cF (by omega) (by omega) hall) (by omega) (fun z hz => hal2 z (by omega))).symm
             · refine tt ⟨w6,tt ⟨(m + 1),rfl,?_,(?_ : a.puts.length - (m + 1) < a.puts.length - m)⟩⟩
               · exact ⟨by omega,cy hal2 (by unfold ii; simpa using hc73)⟩
               · omega
           · refine tt ⟨?_,oK⟩
             first | exact (gH (by simpa using hs0)).symm | exact (gI (by simpa using hs1)).symm | exact (gJ (by omega)).symm | exact (gK (by omega)).symm | exact (gL (i := k) (by simpa using hc55)).symm | exact (gM (i := m) (by unfold ii; rw [Bool.not_eq_eq_eq_not,Bool.not_true] at hc73; exact hc73)).symm | exact (gN (by simpa using hs0) (by simpa using hs1) (cF (by omega) (by omega) hall) (by omega) (fun z hz => hal2 z (by omega))).symm
     · refine tt ⟨(nF hs0),tt ⟨(dG a.s b.s ha hb hc),tt ⟨(mF hs1),tt ⟨(nT hs2),tt ⟨?_,oK⟩⟩⟩⟩⟩
       first | exact (gH (by simpa using hs0)).symm | exact (gI (by simpa using hs1)).symm | exact (gJ (by omega)).symm | exact (gK (by omega)).symm | exact (gL (i := k) (by simpa using hc55)).symm | exact (gM (i := m) (by unfold ii; rw [Bool.not_eq_eq_eq_not,Bool.not_true] at hc73; exact hc73)).symm | exact (gN (by simpa using hs0) (by simpa using hs1) (cF (by omega) (by omega) hall) (by omega) (fun z hz => hal2 z (by omega))).symm
   · refine tt ⟨(nF hs0),tt ⟨(dG a.s b.s ha hb hc),tt ⟨(mT hs1),tt ⟨?_,oK⟩⟩⟩⟩
     first | exact (gH (by simpa using hs0)).symm | exact (gI (by simpa using hs1)).symm | exact (gJ (by omega)).symm | exact (gK (by omega)).symm | exact (gL (i := k) (by simpa using hc55)).symm | exact (gM (i := m) (by unfold ii; rw [Bool.not_eq_eq_eq_not,Bool.not_true] at hc73; exact hc73)).symm | exact (gN (by simpa using hs0) (by simpa using hs1) (cF (by omega) (by omega) hall) (by omega) (fun z hz => hal2 z (by omega))).symm
 · refine tt ⟨(nT hs0),tt ⟨?_,oK⟩⟩
   first | exact (gH (by simpa using hs0)).symm | exact (gI (by simpa using hs1)).symm | exact (gJ (by omega)).symm | exact (gK (by omega)).symm | exact (gL (i := k) (by simpa using hc55)).symm | exact (gM (i := m) (by unfold ii; rw [Bool.not_eq_eq_eq_not,Bool.not_true] at hc73; exact hc73)).symm | exact (gN (by simpa using hs0) (by simpa using hs1) (cF (by omega) (by omega) hall) (by omega) (fun z hz => hal2 z (by omega))).symm
end Go.Proofs.YtifoecfajmnjjaaGreat
