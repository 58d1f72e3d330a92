/-
  The reference of package process.
-/
import Derived.Test.YtifoecfajmnjjaaGreatQPrA
import Derived.Test.YtifoecfajmnjjaaGreatQPrT
import Derived.Test.YtifoecfajmnjjaaGreatQVrA
namespace Go.Proofs.YtifoecfajmnjjaaGreat
open Go.RowKit
set_option linter.unusedVariables false
set_option linter.unusedSimpArgs false
abbrev mQ (p : Pr) : aE := (.var 55 [(dS p.name),(dS p.clock),(dL 13 i1 bH p.regs),(dL 27 p5 aO p.mems),(dL 9 iu bn p.takes),(dL 16 eS aY p.puts)])
abbrev Ap (p : Pr) (s : Ps) (hs : List Hd) : aE := (.var 156 [(dS p.name),(dS p.clock),(dL 13 i1 bH p.regs),(dL 27 p5 aO p.mems),(dL 9 iu bn p.takes),(dL 16 eS aY p.puts),(LI s.regs),(dL 1 ac [] s.mems),(LI (bO p s hs))])
abbrev Aq (p : Pr) : D := (.agg [(dS p.name),(dS p.clock),(dL 13 i1 bH p.regs),(dL 27 p5 aO p.mems),(dL 9 iu bn p.takes),(dL 16 eS aY p.puts)])
abbrev DW (p : Pr) (s : Ps) (data : List Int) : aE := (.var 156 [(dS p.name),(dS p.clock),(dL 13 i1 bH p.regs),(dL 27 p5 aO p.mems),(dL 9 iu bn p.takes),(dL 16 eS aY p.puts),(LI s.regs),(dL 1 ac [] s.mems),(LI data)])
abbrev DX (p : Pr) (s : Ps) (data : List Int) : D := (.agg [(dS p.name),(dS p.clock),(dL 13 i1 bH p.regs),(dL 27 p5 aO p.mems),(dL 9 iu bn p.takes),(dL 16 eS aY p.puts),(LI s.regs),(dL 1 ac [] s.mems),(LI data)])
abbrev lq (s : Ps) : List D := [(LI s.regs),(dL 1 ac [] s.mems)]
abbrev iR : D := (.ptr 0 0 0 0)
abbrev Ar : aE := (.var 48 [(dB false),.nils,.nils,.nils,.nils])
set_option maxRecDepth 100000
abbrev HX (v w : Int) : Ct := ⟨81,[(i6 v),(i6 w)],false,(dB (cf v w))⟩
theorem xr (v w : Int) (h1 : 0 ≤ w) (h2 : w ≤ 62) : CC (HX v w) := by
 refine ai.vc (V := TT 1 (CS (v ≥ 0) (TT 2 ((True∧(decide (v ≥ 0)) = true)∧TT 2 ((True∧IntKind.u64.wrap w = w)∧(0 ≤ w∧(Int.fdiv v (2 ^ min w.toNat 64)) = (v / 2 ^ w.toNat))∧TT 4 (((v / 2 ^ w.toNat) == 0) = (cf v w)∧True)))) (TT 2 ((True∧(decide (v ≥ 0)) = false)∧TT 8 (false = (cf v w)∧True))))) (.s 1 (v ≥ 0) (.w 1 [(2,.val (dB true)),(5,.val (dI .u64 w)),(6,.val (i6 (v / 2 ^ w.toNat)))] <| .e) (.w 1 [(2,.val (dB false))] <| .e)) Tryz.func81 rfl rfl rfl (by kernel_rfl) ?_
 refine tt ⟨fun hs0 => ?_,fun hs0 => ?_⟩
 · refine tt ⟨(vT hs0),tt ⟨⟨oK,Cw rfl om om⟩,⟨⟨(by omega),(u3 h1 h2)⟩,tt ⟨?_,oK⟩⟩⟩⟩
   first | exact zY (by omega) h1 h2 | (unfold cf; rw [decide_eq_false (by omega)]; rfl)
 · refine tt ⟨(vF hs0),tt ⟨?_,oK⟩⟩
   first | exact zY (by omega) h1 h2 | (unfold cf; rw [decide_eq_false (by omega)]; rfl)
abbrev Ju (p : Pr) (s : Ps) : Ct := ⟨54,[(Aq p),(.agg (lq s))],false,(dB (bp p s))⟩
abbrev md (p : Pr) (s : Ps) : Lp (Nat) := ga [2,3,5] 2 (fun (i : Nat) => ⟨[(2,iR),(3,(.ptr 1 0 0 0)),(5,(i6 (i : Int)))],[(mQ p),(.var 45 (lq s))]⟩) (fun (i : Nat) => i ≤ s.regs.length∧∀ z,z < i → cf (s.regs.getD z 0) (p.regs.getD z bH).w = true) (fun (i : Nat) => s.regs.length - i)
abbrev me (p : Pr) (s : Ps) : Lp (Nat) := ga [2,3,6] 2 (fun (j : Nat) => ⟨[(2,iR),(3,(.ptr 1 0 0 0)),(6,(i6 (j : Int)))],[(mQ p),(.var 45 (lq s))]⟩) (fun (j : Nat) => j ≤ s.mems.length∧∀ z,z < j → gg p s z = true) (fun (j : Nat) => s.mems.length - j)
abbrev mf (p : Pr) (s : Ps) (j : Nat) : Lp (Nat) := ga [2,3,6,7] 15 (fun (k : Nat) => ⟨[(2,iR),(3,(.ptr 1 0 0 0)),(6,(i6 (j : Int))),(7,(i6 (k : Int)))],[(mQ p),(.var 45 (lq s)),.dead,.dead,.dead,.dead,.dead,.dead,.dead,.dead,.dead,.dead,.dead,.dead,.dead]⟩) (fun (k : Nat) => k ≤ (s.mems.getD j []).length∧∀ z,z < k → cf ((s.mems.getD j []).getD z 0) (p.mems.getD j aO).w = true) (fun (k : Nat) => (s.mems.getD j []).length - k)
theorem BG (p : Pr) (s : Ps) (hp : fq p) : CC (Ju p s) := by
 have hl1 := hp.rl
 have hl2 := hp.ml
 refine ai.vc (V := TT 3 (CS ((s.regs.length : Int) = (p.regs.length : Int)) (TT 7 ((True∧(!decide ((s.regs.length : Int) = (p.regs.length : Int))) = false)∧TT 8 (CN ((s.mems.length : Int) = (p.mems.length : Int)) (TT 2 (false = (bp p s)∧True)) (TT 1 (GO (md p s) 0 (∀ i,(md p s).inv i → TT 5 (CD ((i : Int) < (s.regs.length : Int)) (TT 3 (IX (i : Int) s.regs.length∧TT 4 (IX (i : Int) p.regs.length∧TT 2 (CC (HX (s.regs.getD i 0) ((p.regs.getD i bH).w))∧TT 1 (CB (!(cf (s.regs.getD i 0) ((p.regs.getD i bH).w))) (TT 2 (false = (bp p s)∧True)) (TT 1 (W6 ((i + 1 : Nat) : Int)∧TT 1 (AG (md p s) i (i + 1))))))))) (TT 1 (GO (me p s) 0 (∀ j,(me p s).inv j → TT 5 (CD ((j : Int) < (s.mems.length : Int)) (TT 3 (IX (j : Int) s.mems.length∧TT 5 (IX (j : Int) p.mems.length∧TT 3 (CN ((((s.mems.getD j []).length : Nat) : Int) = ((p.mems.getD j aO).words)) (TT 2 (false = (bp p s)∧True)) (TT 1 (GO (mf p s j) 0 (∀ k,(mf p s j).inv k → TT 4 (IX (j : Int) s.mems.length∧TT 3 (CD ((k : Int) < (((s.mems.getD j []).length : Nat) : Int)) (TT 3 (IX (j : Int) s.mems.length∧TT 2 (IX (k : Int) ((s.mems.getD j []).length)∧TT 4 (IX (j : Int) p.mems.length∧TT 2 (CC (HX ((s.mems.getD j []).getD k 0) ((p.mems.getD j aO).w))∧TT 1 (CB (!(cf ((s.mems.getD j []).getD k 0) ((p.mems.getD j aO).w))) (TT 2 (false = (bp p s)∧True)) (TT 1 (W6 ((k + 1 : Nat) : Int)∧TT 1 (AG (mf p s j) k (k + 1)))))))))) (TT 1 (W6 ((j + 1 : Nat) : Int)∧TT 1 (AG (me p s) j (j + 1))))))))))))) (TT 2 (true = (bp p s)∧True))))))))))))) (TT 7 ((True∧(!decide ((s.regs.length : Int) = (p.regs.length : Int))) = true)∧TT 10 (false = (bp p s)∧True))))) (.s 1 ((s.regs.length : Int) = (p.regs.length : Int)) (.w 1 [(7,.val (dB false))] <| .b 23 (.e) (.l (md p s) 0 (fun i => .b 28 (.w 6 [(11,(HX (s.regs.getD i 0) ((p.regs.getD i bH).w)).O)] <| .b 43 (.e) (.w 5 [(1,.val (i6 ((i + 1 : Nat) : Int)))] <| .e)) (.l (me p s) 0 (fun j => .b 48 (.b 63 (.e) (.l (mf p s j) 0 (fun k => .b 71 (.w 16 [(14,(HX ((s.mems.getD j []).getD k 0) ((p.mems.getD j aO).w)).O)] <| .b 89 (.e) (.w 15 [(1,.val (i6 ((k + 1 : Nat) : Int)))] <| .e)) (.w 10 [(1,.val (i6 ((j + 1 : Nat) : Int)))] <| .e)))) (.e)))))) (.w 1 [(7,.val (dB true))] <| .e)) Tryz.func54 rfl rfl rfl (by kernel_rfl) ?_
 refine tt ⟨fun hs0 => ?_,fun hs0 => ?_⟩
 · refine tt ⟨(nF hs0),tt (cn (fun hc23 => ?_) (fun hc23 => ?_))⟩
   · refine tt ⟨?_,oK⟩
     first | exact (cQ (by omega)).symm | exact (cR (by omega)).symm | exact (cS (i := i) (by omega) (by simpa using hc43)).symm | exact (bk (i := j) (by omega) (eD (by omega))).symm | exact (bk (i := j) (by omega) (eE (j := k) (by omega) (by simpa using hc89))).symm | exact (cT (by omega) (by omega) (fun z hz => h3 z (by omega)) (fun z hz => h4 z (by omega))).symm
   · refine tt ⟨rfl,⟨by omega,fun z hz => by omega⟩,?_⟩
     intro i hinv
     obtain ⟨hi,h3⟩ := hinv
     refine tt (cd (fun hc28 => ?_) (fun hc28 => ?_))
     · have hrw := aU.1 (show an (p.regs.getD i bH).w = true from (hp.rw i (by omega)).1)
       refine tt ⟨ix,tt ⟨ix,tt ⟨(xr (s.regs.getD i 0) ((p.regs.getD i bH).w) om om),tt ⟨fun hc43 => ?_,fun hc43 => ?_⟩⟩⟩⟩
       · refine tt ⟨?_,oK⟩
         first | exact (cQ (by omega)).symm | exact (cR (by omega)).symm | exact (cS (i := i) (by omega) (by simpa using hc43)).symm | exact (bk (i := j) (by omega) (eD (by omega))).symm | exact (bk (i := j) (by omega) (eE (j := k) (by omega) (by simpa using hc89))).symm | exact (cT (by omega) (by omega) (fun z hz => h3 z (by omega)) (fun z hz => h4 z (by omega))).symm
       · refine tt ⟨w6,tt ⟨(i + 1),rfl,?_,(?_ : s.regs.length - (i + 1) < s.regs.length - i)⟩⟩
         · exact ⟨by omega,bU h3 (by simpa using hc43)⟩
         · omega
     · refine tt ⟨rfl,⟨by omega,fun z hz => by omega⟩,?_⟩
       intro j hinv
       obtain ⟨hj,h4⟩ := hinv
       refine tt (cd (fun hc48 => ?_) (fun hc48 => ?_))
       · refine tt ⟨ix,tt ⟨ix,tt (cn (fun hc63 => ?_) (fun hc63 => ?_))⟩⟩
         · refine tt ⟨?_,oK⟩
           first | exact (cQ (by omega)).symm | exact (cR (by omega)).symm | exact (cS (i := i) (by omega) (by simpa using hc43)).symm | exact (bk (i := j) (by omega) (eD (by omega))).symm | exact (bk (i := j) (by omega) (eE (j := k) (by omega) (by simpa using hc89))).symm | exact (cT (by omega) (by omega) (fun z hz => h3 z (by omega)) (fun z hz => h4 z (by omega))).symm
         · have hmw : 1 ≤ (p.mems.getD j aO).words∧(p.mems.getD j aO).words ≤ 4 := (hp.mw j (by omega)).2.1
           refine tt ⟨rfl,⟨by omega,fun z hz => by omega⟩,?_⟩
           intro k hinv
           obtain ⟨hk,h5⟩ := hinv
           refine tt ⟨ix,tt (cd (fun hc71 => ?_) (fun hc71 => ?_))⟩
           · have hmww := aU.1 (show an (p.mems.getD j aO).w = true from (hp.mw j (by omega)).1)
             refine tt ⟨ix,tt ⟨ix,tt ⟨ix,tt ⟨(xr ((s.mems.getD j []).getD k 0) ((p.mems.getD j aO).w) om om),tt ⟨fun hc89 => ?_,fun hc89 => ?_⟩⟩⟩⟩⟩
             · refine tt ⟨?_,oK⟩
               first | exact (cQ (by omega)).symm | exact (cR (by omega)).symm | exact (cS (i := i) (by omega) (by simpa using hc43)).symm | exact (bk (i := j) (by omega) (eD (by omega))).symm | exact (bk (i := j) (by omega) (eE (j := k) (by omega) (by simpa using hc89))).symm | exact (cT (by omega) (by omega) (fun z hz => h3 z (by omega)) (fun z hz => h4 z (by omega))).symm
             · refine tt ⟨w6,tt ⟨(k + 1),rfl,?_,(?_ : (s.mems.getD j []).length - (k + 1) < (s.mems.getD j []).length - k)⟩⟩
               · exact ⟨by omega,bU h5 (by simpa using hc89)⟩
               · omega
           · refine tt ⟨w6,tt ⟨(j + 1),rfl,?_,(?_ : s.mems.length - (j + 1) < s.mems.length - j)⟩⟩
             · exact ⟨by omega,bU h4 (zX (by omega) (fun z hz => h5 z (by omega)))⟩
             · omega
       · refine tt ⟨?_,oK⟩
         first | exact (cQ (by omega)).symm | exact (cR (by omega)).symm | exact (cS (i := i) (by omega) (by simpa using hc43)).symm | exact (bk (i := j) (by omega) (eD (by omega))).symm | exact (bk (i := j) (by omega) (eE (j := k) (by omega) (by simpa using hc89))).symm | exact (cT (by omega) (by omega) (fun z hz => h3 z (by omega)) (fun z hz => h4 z (by omega))).symm
 · refine tt ⟨(nT hs0),tt ⟨?_,oK⟩⟩
   first | exact (cQ (by omega)).symm | exact (cR (by omega)).symm | exact (cS (i := i) (by omega) (by simpa using hc43)).symm | exact (bk (i := j) (by omega) (eD (by omega))).symm | exact (bk (i := j) (by omega) (eE (j := k) (by omega) (by simpa using hc89))).symm | exact (cT (by omega) (by omega) (fun z hz => h3 z (by omega)) (fun z hz => h4 z (by omega))).symm
abbrev Jv (p : Pr) : Ct := ⟨59,[(Aq p)],true,(.agg [(LI ((aV p).regs)),(dL 1 ac [] ((aV p).mems))])⟩
abbrev mg (p : Pr) : Lp (Nat) := ga [1,2,3,4] 4 (fun (i : Nat) => ⟨[(1,iR),(2,(.ptr 1 0 0 0)),(3,(.ptr 2 0 0 0)),(4,(i6 (i : Int)))],[(mQ p),(.var 45 [.nils,.nils]),(.var 45 [(.own 3),.nils]),(.arr 3 1 (af .i64) 0 (ap (fun z => (p.regs.getD z bH).init) i))]⟩) (fun (i : Nat) => i ≤ p.regs.length) (fun (i : Nat) => p.regs.length - i)
abbrev mh (p : Pr) (i : Nat) : Lp (Nat) := ga [1,2,3,5] 5 (fun (j : Nat) => ⟨[(1,iR),(2,(.ptr 1 0 0 0)),(3,(.ptr 2 0 0 0)),(5,(i6 (j : Int)))],[(mQ p),(.var 45 [.nils,.nils]),(.var 45 [(.own 3),(.own 4)]),(.arr 3 1 (af .i64) 0 (ap (fun z => (p.regs.getD z bH).init) i)),(.arr 43 1 ac [] (ap (fun z => List.replicate (p.mems.getD z aO).words.toNat (0 : Int)) j))]⟩) (fun (j : Nat) => j ≤ p.mems.length) (fun (j : Nat) => p.mems.length - j)
theorem BH (p : Pr) (hp : fq p) : CC (Jv p) := by
 have hl1 := hp.rl
 have hl2 := hp.ml
 refine ai.vc (V := TT 6 (GO (mg p) 0 (∀ i,(mg p).inv i → TT 5 (CD ((i : Int) < (p.regs.length : Int)) (TT 5 (IX (i : Int) p.regs.length∧TT 2 (am [[(i6 ((p.regs.getD i bH).init))]] ([(p.regs.getD i bH).init].map (af .i64))∧((ap (fun z => (p.regs.getD z bH).init) i).length + ([(p.regs.getD i bH).init].map (af .i64)).length ≤ 137438953472∧(ap (fun z => (p.regs.getD z bH).init) i).map (af .i64) ++ [(p.regs.getD i bH).init].map (af .i64) = (ap (fun z => (p.regs.getD z bH).init) (i + 1)).map (af .i64))∧TT 3 (W6 ((i + 1 : Nat) : Int)∧TT 1 (AG (mg p) i (i + 1)))))) (TT 1 (GO (mh p i) 0 (∀ j,(mh p i).inv j → TT 5 (CD ((j : Int) < (p.mems.length : Int)) (TT 5 (IX (j : Int) p.mems.length∧TT 2 ((((0 : Int) ≤ (p.mems.getD j aO).words∧(p.mems.getD j aO).words ≤ (p.mems.getD j aO).words∧(p.mems.getD j aO).words ≤ 137438953472)∧(List.replicate (p.mems.getD j aO).words.toNat (0 : Int)).length = ((p.mems.getD j aO).words).toNat∧∀ x ∈ (List.replicate (p.mems.getD j aO).words.toNat (0 : Int)),cy [(i6 0)] ((af .i64) x))∧am [[(LI (List.replicate (p.mems.getD j aO).words.toNat (0 : Int)))]] ([List.replicate (p.mems.getD j aO).words.toNat (0 : Int)].map ac)∧((ap (fun z => List.replicate (p.mems.getD z aO).words.toNat (0 : Int)) j).length + ([List.replicate (p.mems.getD j aO).words.toNat (0 : Int)].map ac).length ≤ 137438953472∧(ap (fun z => List.replicate (p.mems.getD z aO).words.toNat (0 : Int)) j).map ac ++ [List.replicate (p.mems.getD j aO).words.toNat (0 : Int)].map ac = (ap (fun z => List.replicate (p.mems.getD z aO).words.toNat (0 : Int)) (j + 1)).map ac)∧TT 3 (W6 ((j + 1 : Nat) : Int)∧TT 1 (AG (mh p i) j (j + 1)))))) (TT 3 ((ap (fun z => (p.regs.getD z bH).init) i).map (af .i64) = ((aV p).regs).map (af .i64)∧(ap (fun z => List.replicate (p.mems.getD z aO).words.toNat (0 : Int)) j).map ac = ((aV p).mems).map ac∧True)))))))))) (.g 2 2 0 3 1 (af .i64) 0 <| .l (mg p) 0 (fun i => .b 11 (.w 5 [(8,.box 3 1 (af .i64) 0 [(p.regs.getD i bH).init]),(9,.box 3 1 (af .i64) 0 (ap (fun z => (p.regs.getD z bH).init) (i + 1)))] <| .w 4 [(1,.val (i6 ((i + 1 : Nat) : Int)))] <| .e) (.g 6 2 1 43 1 ac [] <| .l (mh p i) 0 (fun j => .b 29 (.w 9 [(8,.frz 3 1 (af .i64) 0 (List.replicate (p.mems.getD j aO).words.toNat (0 : Int))),(9,.box 43 1 ac [] [List.replicate (p.mems.getD j aO).words.toNat (0 : Int)]),(10,.box 43 1 ac [] (ap (fun z => List.replicate (p.mems.getD z aO).words.toNat (0 : Int)) (j + 1)))] <| .w 8 [(1,.val (i6 ((j + 1 : Nat) : Int)))] <| .e) (.e))))) Tryz.func59 rfl rfl rfl (by kernel_rfl) ?_
 refine tt ⟨rfl,(by omega),?_⟩
 intro i hinv
 have hi := hinv
 refine tt (cd (fun hc11 => ?_) (fun hc11 => ?_))
 · refine tt ⟨ix,tt ⟨⟨⟨rfl,oK⟩,oK⟩,⟨(gF (f := fun z => (p.regs.getD z bH).init) (by omega)),tt ⟨w6,tt ⟨(i + 1),rfl,(?_ : (i + 1) ≤ p.regs.length),(?_ : p.regs.length - (i + 1) < p.regs.length - i)⟩⟩⟩⟩⟩
   · omega
   · omega
 · refine tt ⟨rfl,(by omega),?_⟩
   intro j hinv
   have hj := hinv
   refine tt (cd (fun hc29 => ?_) (fun hc29 => ?_))
   · have hmw : 1 ≤ (p.mems.getD j aO).words∧(p.mems.getD j aO).words ≤ 4 := (hp.mw j (by omega)).2.1
     refine tt ⟨ix,tt ⟨⟨by omega,List.length_replicate,fun x hx => by rw [List.eq_of_mem_replicate hx]; exact ⟨rfl,oK⟩⟩,⟨⟨⟨rfl,oK⟩,oK⟩,⟨(gF (f := fun z => List.replicate (p.mems.getD z aO).words.toNat (0 : Int)) (by omega)),tt ⟨w6,tt ⟨(j + 1),rfl,(?_ : (j + 1) ≤ p.mems.length),(?_ : p.mems.length - (j + 1) < p.mems.length - j)⟩⟩⟩⟩⟩⟩
     · omega
     · omega
   · refine tt ⟨(congrArg _ (?_ : (ap (fun z => (p.regs.getD z bH).init) i) = ((aV p).regs))),(congrArg _ (?_ : (ap (fun z => List.replicate (p.mems.getD z aO).words.toNat (0 : Int)) j) = ((aV p).mems))),oK⟩
     · rw [oM,show i = p.regs.length by omega]
     · rw [oM,show j = p.mems.length by omega]
abbrev xt (p : Pr) (s : Ps) (data : List Int) (n : Nat) (e : Ex) : Ct := ⟨77,[(DX p s data),(.agg [(i6 e.op),(dS e.name),(i6 e.k.n),(dS e.k.p),(i6 e.w.n),(dS e.w.p),(dL 7 (eA n) dE e.args)])],false,(.agg [(i6 ((a7 p s data e).1)),(i6 ((a7 p s data e).2))])⟩
abbrev ro (p : Pr) (s : Ps) (data : List Int) (n : Nat) (e : Ex) : Lp (Nat) := ga [2,3,4,7,8,9] 5 (fun (i : Nat) => ⟨[(2,iR),(3,(.ptr 1 0 0 0)),(4,(.ptr 2 0 0 0)),(7,(.own 3)),(8,(.own 4)),(9,(i6 (i : Int)))],[(DW p s data),(.var 62 [(i6 e.op),(dS e.name),(i6 e.k.n),(dS e.k.p),(i6 e.w.n),(dS e.w.p),(dL 7 (eA (n + 1)) dE e.args)]),(.var 161 [(i6 0),(i6 0)]),(.arr 3 1 (af .i64) 0 (eu p s data (e.args.take i))),(.arr 3 1 (af .i64) 0 (cX p s data (e.args.take i)))]⟩) (fun (i : Nat) => i ≤ e.args.length) (fun (i : Nat) => e.args.length - i)
theorem Au (p : Pr) (s : Ps) (data : List Int) (n : Nat) (e : Ex) (c : Sc) (v : Int) (ho : p6 c p s data) (ht : ex c e = some v) (hmw : ∀ i,i < p.mems.length → ((s.mems.getD i []).length : Int) = (p.mems.getD i aO).words) (ih : ∀ a ∈ e.args,CC (xt p s data n a)) : CC (xt p s data (n + 1) e) := by
 have hal := C7 ht
 refine ai.vc (V := TT 7 (CD (e.op = 16) (TT 6 (IX e.k.n s.regs.length∧TT 7 (IX e.k.n p.regs.length∧TT 5 ((((s.regs.getD e.k.n.toNat 0) = ((a7 p s data e).1)∧((p.regs.getD e.k.n.toNat bH).w) = ((a7 p s data e).2)∧True))∧((True∧True∧True)))))) (TT 2 (CD (e.op = 17) (TT 6 (IX e.k.n p.mems.length∧TT 6 (IX 0 e.args.length∧TT 1 (CC (xt p s data n (e.args.getD 0 dE))∧TT 8 (IX e.k.n s.mems.length∧TT 5 ((((p.mems.getD e.k.n.toNat aO).words) ≠ 0∧(Int.tmod ((a7 p s data (e.args.getD 0 dE)).1) ((p.mems.getD e.k.n.toNat aO).words)) = (Int.tmod (a7 p s data (e.args.getD 0 dE)).1 ((s.mems.getD e.k.n.toNat []).length : Int)))∧IX (Int.tmod (a7 p s data (e.args.getD 0 dE)).1 ((s.mems.getD e.k.n.toNat []).length : Int)) ((s.mems.getD e.k.n.toNat []).length)∧TT 6 (((((s.mems.getD e.k.n.toNat []).getD ((Int.tmod (a7 p s data (e.args.getD 0 dE)).1 ((s.mems.getD e.k.n.toNat []).length : Int)).toNat) 0) = ((a7 p s data e).1)∧((p.mems.getD e.k.n.toNat aO).w) = ((a7 p s data e).2)∧True))∧((True∧True∧True))))))))) (TT 2 (CD (e.op = 18) (TT 5 (IX e.k.n data.length∧TT 7 (IX e.k.n p.takes.length∧TT 5 ((((data.getD e.k.n.toNat 0) = ((a7 p s data e).1)∧((p.takes.getD e.k.n.toNat bn).w) = ((a7 p s data e).2)∧True))∧((True∧True∧True)))))) (am [] ((eu p s data (e.args.take 0)).map (af .i64))∧am [] ((cX p s data (e.args.take 0)).map (af .i64))∧TT 3 (GO (ro p s data n e) 0 (∀ i,(ro p s data n e).inv i → TT 5 (CD ((i : Int) < (e.args.length : Int)) (TT 4 (IX (i : Int) e.args.length∧TT 1 (CC (xt p s data n (e.args.getD i dE))∧TT 5 (am [[(i6 ((a7 p s data (e.args.getD i dE)).1))]] ([(a7 p s data (e.args.getD i dE)).1].map (af .i64))∧((eu p s data (e.args.take i)).length + ([(a7 p s data (e.args.getD i dE)).1].map (af .i64)).length ≤ 137438953472∧(eu p s data (e.args.take i)).map (af .i64) ++ [(a7 p s data (e.args.getD i dE)).1].map (af .i64) = (eu p s data (e.args.take (i + 1))).map (af .i64))∧TT 4 (am [[(i6 ((a7 p s data (e.args.getD i dE)).2))]] ([(a7 p s data (e.args.getD i dE)).2].map (af .i64))∧((cX p s data (e.args.take i)).length + ([(a7 p s data (e.args.getD i dE)).2].map (af .i64)).length ≤ 137438953472∧(cX p s data (e.args.take i)).map (af .i64) ++ [(a7 p s data (e.args.getD i dE)).2].map (af .i64) = (cX p s data (e.args.take (i + 1))).map (af .i64))∧TT 2 (W6 ((i + 1 : Nat) : Int)∧TT 1 (AG (ro p s data n e) i (i + 1)))))))) (TT 10 (CK (HW e.op (cX p s data (e.args.take i)) e.k.n e.w.n)∧TT 12 (am [[(i6 e.k.n)],[(i6 e.w.n)]] ([e.k.n,e.w.n].map (af .i64))∧TT 1 (CK (Jt e.op (cX p s data (e.args.take i)) (eu p s data (e.args.take i)) [e.k.n,e.w.n])∧TT 9 ((((co e.op (cX p s data (e.args.take i)) (eu p s data (e.args.take i)) [e.k.n,e.w.n]) = ((a7 p s data e).1)∧(bS e.op (cX p s data (e.args.take i)) e.k.n e.w.n) = ((a7 p s data e).2)∧True))∧((True∧True∧True))))))))))))))))) (.b 15 (.e) (.b 35 (.w 6 [(5,(xt p s data n (e.args.getD 0 dE)).O)] <| .w 7 [(12,.val (i6 (Int.tmod (a7 p s data (e.args.getD 0 dE)).1 ((s.mems.getD e.k.n.toNat []).length : Int))))] <| .e) (.b 69 (.e) (.w 10 [(0,.box 3 1 (af .i64) 0 (eu p s data (e.args.take 0))),(1,.box 3 1 (af .i64) 0 (cX p s data (e.args.take 0)))] <| .l (ro p s data n e) 0 (fun i => .b 94 (.w 14 [(6,(xt p s data n (e.args.getD i dE)).O)] <| .w 15 [(3,.box 3 1 (af .i64) 0 [(a7 p s data (e.args.getD i dE)).1]),(4,.box 3 1 (af .i64) 0 (eu p s data (e.args.take (i + 1))))] <| .w 16 [(3,.box 3 1 (af .i64) 0 [(a7 p s data (e.args.getD i dE)).2]),(4,.box 3 1 (af .i64) 0 (cX p s data (e.args.take (i + 1))))] <| .w 13 [(1,.val (i6 ((i + 1 : Nat) : Int)))] <| .e) (.w 17 [(10,(HW e.op (cX p s data (e.args.take i)) e.k.n e.w.n).O')] <| .w 18 [(10,.box 3 1 (af .i64) 0 [e.k.n,e.w.n]),(12,(Jt e.op (cX p s data (e.args.take i)) (eu p s data (e.args.take i)) [e.k.n,e.w.n]).O')] <| .e)))))) Tryz.func77 rfl rfl rfl (by kernel_rfl) ?_
 refine tt (cd (fun hc15 => ?_) (fun hc15 => ?_))
 · obtain ⟨h1,h2,h3⟩ := C8 ho ht hc15
   refine tt ⟨ix,tt ⟨ix,tt ⟨⟨?_,?_,oK⟩,⟨oK,oK,oK⟩⟩⟩⟩
   all_goals (first | exact (er hc15).1.symm | exact (er hc15).2.symm | exact (c7 hc69).1.symm | exact (c7 hc69).2.symm | exact (c9 hc35 hlen).1.symm | exact (c9 hc35 hlen).2.symm | (rw [hie,List.take_length]; exact (gt hc15 hc69 hc35).1.symm) | (rw [hie,List.take_length]; exact (gt hc15 hc69 hc35).2.symm))
 · refine tt (cd (fun hc35 => ?_) (fun hc35 => ?_))
   · obtain ⟨h1,h2,h3,hlen,h4,h5,h6⟩ := zO ho ht hc35
     have hpw : (p.mems.getD e.k.n.toNat aO).words = ((s.mems.getD e.k.n.toNat []).length : Int) := (hmw _ (by omega)).symm
     have hz : (s.mems.getD e.k.n.toNat []).length ≠ 0 := by omega
     refine tt ⟨ix,tt ⟨ix,tt ⟨(ih _ (gK (by omega))),tt ⟨ix,tt ⟨⟨(by omega),(by rw [hpw])⟩,⟨ix,tt ⟨⟨?_,?_,oK⟩,⟨oK,oK,oK⟩⟩⟩⟩⟩⟩⟩⟩
     all_goals (first | exact (er hc15).1.symm | exact (er hc15).2.symm | exact (c7 hc69).1.symm | exact (c7 hc69).2.symm | exact (c9 hc35 hlen).1.symm | exact (c9 hc35 hlen).2.symm | (rw [hie,List.take_length]; exact (gt hc15 hc69 hc35).1.symm) | (rw [hie,List.take_length]; exact (gt hc15 hc69 hc35).2.symm))
   · refine tt (cd (fun hc69 => ?_) (fun hc69 => ?_))
     · obtain ⟨h1,h2,h3⟩ := zN ho ht hc69
       refine tt ⟨ix,tt ⟨ix,tt ⟨⟨?_,?_,oK⟩,⟨oK,oK,oK⟩⟩⟩⟩
       all_goals (first | exact (er hc15).1.symm | exact (er hc15).2.symm | exact (c7 hc69).1.symm | exact (c7 hc69).2.symm | exact (c9 hc35 hlen).1.symm | exact (c9 hc35 hlen).2.symm | (rw [hie,List.take_length]; exact (gt hc15 hc69 hc35).1.symm) | (rw [hie,List.take_length]; exact (gt hc15 hc69 hc35).2.symm))
     · refine ⟨oK,⟨oK,tt ⟨rfl,(by omega),?_⟩⟩⟩
       intro i hinv
       have hi := hinv
       refine tt (cd (fun hc94 => ?_) (fun hc94 => ?_))
       · refine tt ⟨ix,tt ⟨(ih _ (gK (by omega))),tt ⟨⟨⟨rfl,oK⟩,oK⟩,⟨⟨by simp only [List.length_map,List.length_cons,List.length_nil]; rw [sj,List.length_take]; omega,by rw [tV (by omega),List.map_append]⟩,tt ⟨⟨⟨rfl,oK⟩,oK⟩,⟨⟨by simp only [List.length_map,List.length_cons,List.length_nil]; rw [oH,List.length_take]; omega,by rw [tW (by omega),List.map_append]⟩,tt ⟨w6,tt ⟨(i + 1),rfl,(?_ : (i + 1) ≤ e.args.length),(?_ : e.args.length - (i + 1) < e.args.length - i)⟩⟩⟩⟩⟩⟩⟩⟩
         · omega
         · omega
       · have hie : i = e.args.length := by omega
         have hev := Dn ho ht hc15 hc35 hc69
         have hev1 : fT e.op (cX p s data (e.args.take i)) e.k.n e.w.n = true := by rw [hie,List.take_length]; exact hev.1
         have hev2 : wK (cX p s data (e.args.take i)) (eu p s data (e.args.take i)) = true := by rw [hie,List.take_length]; exact hev.2
         refine tt ⟨⟨cU _ rfl,(sO e.op (cX p s data (e.args.take i)) e.k.n e.w.n hev1)⟩,tt ⟨⟨⟨rfl,oK⟩,⟨rfl,oK⟩,oK⟩,tt ⟨⟨cU _ rfl,(y6 e.op (cX p s data (e.args.take i)) (eu p s data (e.args.take i)) [e.k.n,e.w.n] hev1 (by rw [sj,oH]) hev2 rfl)⟩,tt ⟨⟨?_,?_,oK⟩,⟨oK,oK,oK⟩⟩⟩⟩⟩
         all_goals (first | exact (er hc15).1.symm | exact (er hc15).2.symm | exact (c7 hc69).1.symm | exact (c7 hc69).2.symm | exact (c9 hc35 hlen).1.symm | exact (c9 hc35 hlen).2.symm | (rw [hie,List.take_length]; exact (gt hc15 hc69 hc35).1.symm) | (rw [hie,List.take_length]; exact (gt hc15 hc69 hc35).2.symm))
theorem jt {c : Sc} {p : Pr} {s : Ps} {data : List Int} (ho : p6 c p s data) (hmw : ∀ i,i < p.mems.length → ((s.mems.getD i []).length : Int) = (p.mems.getD i aO).words) : ∀ (n : Nat) (e : Ex) (v : Int),ex c e = some v → eX e ≤ n + 1 → CC (xt p s data n e)
  | 0,e,v,ht,hd => by
    have ha : e.args = [] := by
      cases hl : e.args with
      | nil => rfl
      | cons a r =>
        have := rg (e := e) (a := a) (by rw [hl]; simp)
        cases a with | mk op name k w args => rw [eX] at this; omega
    have h := Au p s data 0 e c v ho ht hmw (fun a h => by rw [ha] at h; cases h)
    refine ai.recast ?_ h
    refine ⟨r9 _ rfl,⟨rfl,rfl,rfl,rfl,rfl,rfl,?_,oK⟩,oK⟩
    show e.args.map (eA 0) = e.args.map (eA 1)
    rw [ha]; rfl
  | n + 1,e,v,ht,hd => Au p s data n e c v ho ht hmw (fun a h => by
    obtain ⟨w,hw⟩ := C6 ht h
    exact jt ho hmw n a w hw (by have := rg h; omega))
abbrev y7 (p : Pr) (s : Ps) (data : List Int) (e : Ex) : Ct := ⟨75,[(DX p s data),(.agg [(i6 e.op),(dS e.name),(i6 e.k.n),(dS e.k.p),(i6 e.w.n),(dS e.w.p),(dL 7 (eA 2) dE e.args)])],false,(dB (du p s data e))⟩
theorem sP (p : Pr) (s : Ps) (data : List Int) (e : Ex) {c : Sc} {v : Int} (ho : p6 c p s data) (hmw : ∀ i,i < p.mems.length → ((s.mems.getD i []).length : Int) = (p.mems.getD i aO).words) (ht : ex c e = some v) (hd : eX e ≤ 3) : CC (y7 p s data e) := by
 refine ai.vc (V := TT 5 (CC (xt p s data 2 e)∧TT 4 ((((a7 p s data e).1) == 1) = (du p s data e)∧True))) (.w 1 [(2,(xt p s data 2 e).O)] <| .e) Tryz.func75 rfl rfl rfl (by kernel_rfl) ?_
 refine tt ⟨(jt ho hmw 2 e _ ht hd),tt ⟨?_,oK⟩⟩
 rfl
abbrev Jw (p : Pr) (s : Ps) (hs : List Hd) (rs : List Bool) : Ct := ⟨74,[(Aq p),(.agg (lq s)),(.agg [(dL 2 bo aJ hs),(LB rs)])],true,(.agg [(dS p.name),(dS p.clock),(dL 13 i1 bH p.regs),(dL 27 p5 aO p.mems),(dL 9 iu bn p.takes),(dL 16 eS aY p.puts),(LI s.regs),(dL 1 ac [] s.mems),(LI (bO p s hs))])⟩
abbrev fH (p : Pr) (s : Ps) (hs : List Hd) (rs : List Bool) : Lp (Nat × List Int) := rX [3,5,6,7,8,9] 20 (fun (i : Nat) (dat : List Int) => ⟨[(3,iR),(5,(.ptr 2 0 0 0)),(6,(.ptr 3 0 0 0)),(7,(.ptr 11 0 0 0)),(8,(.ptr 19 0 0 0)),(9,(i6 (i : Int)))],[(mQ p),(.var 45 (lq s)),(.var 121 [(dL 2 bo aJ hs),(LB rs)]),(.var 156 [(dS e0),(dS e0),.nils,.nils,.nils,.nils,.nils,.nils,.nils]),.dead,.dead,.dead,.dead,.dead,.dead,.dead,(.var 156 [(dS p.name),(dS p.clock),(dL 13 i1 bH p.regs),(dL 27 p5 aO p.mems),(dL 9 iu bn p.takes),(dL 16 eS aY p.puts),(LI s.regs),(dL 1 ac [] s.mems),(LI (hU p))]),.dead,.dead,.dead,.dead,.dead,(.arr 3 1 (af .i64) 0 dat),.dead,(.var 156 [(dS p.name),(dS p.clock),(dL 13 i1 bH p.regs),(dL 27 p5 aO p.mems),(dL 9 iu bn p.takes),(dL 16 eS aY p.puts),(LI s.regs),(dL 1 ac [] s.mems),(.own 17)])]⟩) (fun (i : Nat) (dat : List Int) => i ≤ p.takes.length∧dat = b6 (kA p s hs) (hU p) i) (fun (i : Nat) (dat : List Int) => p.takes.length - i)
theorem y8 (p : Pr) (s : Ps) (hs : List Hd) (rs : List Bool) (hp : fq p) (hso : nj p s) (hh : wS p hs) : CC (Jw p s hs rs) := by
 have ht1 := hp.tl
 have ht2 := hp.pl
 have hhl := hh.l
 have hmw := hso.mn
 have ho := fV hp hso (FM hp)
 refine ai.vc (V := TT 9 ((((0 : Int) ≤ (p.takes.length : Int)∧(p.takes.length : Int) ≤ (p.takes.length : Int)∧(p.takes.length : Int) ≤ 137438953472)∧(hU p).length = p.takes.length∧∀ x ∈ (hU p),cy [(i6 0)] ((af .i64) x))∧TT 8 ((((0 : Int) ≤ (p.takes.length : Int)∧(p.takes.length : Int) ≤ (p.takes.length : Int)∧(p.takes.length : Int) ≤ 137438953472)∧(hU p).length = p.takes.length∧∀ x ∈ (hU p),cy [(i6 0)] ((af .i64) x))∧TT 4 (GO (fH p s hs rs) (0,hU p) (∀ i dat,(fH p s hs rs).inv (i,dat) → TT 5 (CD ((i : Int) < (p.takes.length : Int)) (CS ((du p s (hU p) ((p.takes.getD i bn).when)) = true) (TT 4 (IX (i : Int) p.takes.length∧TT 2 (CC (y7 p s (hU p) ((p.takes.getD i bn).when))∧(True∧(du p s (hU p) ((p.takes.getD i bn).when)) = true)∧TT 3 (IX (i : Int) hs.length∧TT 3 (CB ((hs.getD i aJ).has) (TT 6 (IX (i : Int) hs.length∧TT 2 (IX (i : Int) dat.length∧(i < dat.length∧(dat.map (af .i64)).set i (((af .i64) (dat.getD i 0)).take 0 ++ [(.int .i64 ((hs.getD i aJ).v))] ++ ((af .i64) (dat.getD i 0)).drop (0 + 1)) = (dat.set i ((hs.getD i aJ).v)).map (af .i64))∧TT 1 (W6 ((i + 1 : Nat) : Int)∧TT 1 (AG (fH p s hs rs) (i,dat) (i + 1,dat.set i ((hs.getD i aJ).v))))))) (TT 1 (W6 ((i + 1 : Nat) : Int)∧TT 1 (AG (fH p s hs rs) (i,dat) (i + 1,dat))))))))) (TT 4 (IX (i : Int) p.takes.length∧TT 2 (CC (y7 p s (hU p) ((p.takes.getD i bn).when))∧(True∧(du p s (hU p) ((p.takes.getD i bn).when)) = false)∧TT 2 (W6 ((i + 1 : Nat) : Int)∧TT 1 (AG (fH p s hs rs) (i,dat) (i + 1,dat))))))) (TT 3 (p.name = p.name∧p.clock = p.clock∧p.regs.map i1 = p.regs.map i1∧p.mems.map p5 = p.mems.map p5∧p.takes.map iu = p.takes.map iu∧p.puts.map eS = p.puts.map eS∧s.regs.map (af .i64) = s.regs.map (af .i64)∧s.mems.map ac = s.mems.map ac∧dat.map (af .i64) = (bO p s hs).map (af .i64)∧True)))))))) (.w 1 [(5,.frz 3 1 (af .i64) 0 (hU p))] <| .w 2 [(5,.box 3 1 (af .i64) 0 (hU p))] <| .l (fH p s hs rs) (0,hU p) (fun ⟨i,dat⟩ => .b 28 (.s 6 ((du p s (hU p) ((p.takes.getD i bn).when)) = true) (.w 6 [(7,(y7 p s (hU p) ((p.takes.getD i bn).when)).O),(8,.val (dB true))] <| .b 46 (.w 7 [(10,.box 3 1 (af .i64) 0 (dat.set i ((hs.getD i aJ).v)))] <| .w 5 [(1,.val (i6 ((i + 1 : Nat) : Int)))] <| .e) (.w 5 [(1,.val (i6 ((i + 1 : Nat) : Int)))] <| .e)) (.w 6 [(7,(y7 p s (hU p) ((p.takes.getD i bn).when)).O),(8,.val (dB false))] <| .w 5 [(1,.val (i6 ((i + 1 : Nat) : Int)))] <| .e)) (.e))) Tryz.func74 rfl rfl rfl (by kernel_rfl) ?_
 refine tt ⟨⟨by omega,dW,fun x hx => by rw [List.eq_of_mem_replicate hx]; exact ⟨rfl,oK⟩⟩,tt ⟨⟨by omega,dW,fun x hx => by rw [List.eq_of_mem_replicate hx]; exact ⟨rfl,oK⟩⟩,tt ⟨rfl,⟨by omega,rfl⟩,?_⟩⟩⟩
 intro i dat hinv
 obtain ⟨hi,hdat⟩ := hinv
 have hdl : dat.length = p.takes.length := by rw [hdat,cY (by rw [dW]; exact hi),dW]
 refine tt (cd (fun hc28 => ?_) (fun hc28 => ?_))
 · have hwh := ri hp (show i < p.takes.length by omega)
   refine ⟨fun hs0 => ?_,fun hs0 => ?_⟩
   · refine tt ⟨ix,tt ⟨(sP p s (hU p) ((p.takes.getD i bn).when) ho hmw hwh.1 hwh.2),⟨(bT hs0),tt ⟨ix,tt ⟨fun hc46 => ?_,fun hc46 => ?_⟩⟩⟩⟩⟩
     · refine tt ⟨ix,tt ⟨ix,⟨⟨om,by simp only [List.map_set]; rfl⟩,tt ⟨w6,tt ⟨(i + 1,dat.set i ((hs.getD i aJ).v)),rfl,?_,(?_ : p.takes.length - (i + 1) < p.takes.length - i)⟩⟩⟩⟩⟩
       · exact ⟨by omega,by rw [hdat]; exact bK (by rw [dW]; omega) (EY hs0 hc46)⟩
       · omega
     · refine tt ⟨w6,tt ⟨(i + 1,dat),rfl,?_,(?_ : p.takes.length - (i + 1) < p.takes.length - i)⟩⟩
       · exact ⟨by omega,by rw [hdat]; exact bD (by rw [dW]; omega) (by first | exact zZ (by assumption) | exact z3 (by rw [hc46]; simp))⟩
       · omega
   · refine tt ⟨ix,tt ⟨(sP p s (hU p) ((p.takes.getD i bn).when) ho hmw hwh.1 hwh.2),⟨(bF hs0),tt ⟨w6,tt ⟨(i + 1,dat),rfl,?_,(?_ : p.takes.length - (i + 1) < p.takes.length - i)⟩⟩⟩⟩⟩
     · exact ⟨by omega,by rw [hdat]; exact bD (by rw [dW]; omega) (by first | exact zZ (by assumption) | exact z3 (by rw [hc46]; simp))⟩
     · omega
 · refine tt ⟨rfl,rfl,rfl,rfl,rfl,rfl,rfl,rfl,(congrArg _ (?_ : dat = (bO p s hs))),oK⟩
   rw [hdat,show i = p.takes.length by omega,cE (by rw [dW]; exact Nat.le_refl _)]; rfl
abbrev Jx (p : Pr) (s : Ps) (data : List Int) : Ct := ⟨76,[(DX p s data)],true,(.agg [(LI ((ce p s data).regs)),(dL 1 ac [] ((ce p s data).mems))])⟩
abbrev pj (p : Pr) (s : Ps) (data : List Int) : Lp (Nat) := ga [1,2,3,4] 4 (fun (i : Nat) => ⟨[(1,iR),(2,(.ptr 1 0 0 0)),(3,(.ptr 2 0 0 0)),(4,(i6 (i : Int)))],[(DW p s data),(.var 45 [.nils,.nils]),(.var 45 [(.own 3),.nils]),(.arr 3 1 (af .i64) 0 (ap (fun z => (a7 p s data (p.regs.getD z bH).next).1) i))]⟩) (fun (i : Nat) => i ≤ p.regs.length) (fun (i : Nat) => p.regs.length - i)
abbrev lr (p : Pr) (s : Ps) (data : List Int) (i : Nat) : Lp (Nat) := ga [1,2,3,5] 5 (fun (j : Nat) => ⟨[(1,iR),(2,(.ptr 1 0 0 0)),(3,(.ptr 2 0 0 0)),(5,(i6 (j : Int)))],[(DW p s data),(.var 45 [.nils,.nils]),(.var 45 [(.own 3),(.own 4)]),(.arr 3 1 (af .i64) 0 (ap (fun z => (a7 p s data (p.regs.getD z bH).next).1) i)),(.arr 43 1 ac [] (ap (py p s data) j))]⟩) (fun (j : Nat) => j ≤ p.mems.length) (fun (j : Nat) => p.mems.length - j)
theorem DY (p : Pr) (s : Ps) (data : List Int) (hp : fq p) (hso : nj p s) (hda : wR p data) : CC (Jx p s data) := by
 have hl1 := hp.rl
 have hl2 := hp.ml
 have hmw := hso.mn
 have ho := fV hp hso hda
 have hsl := hso.ml
 refine ai.vc (V := TT 6 (GO (pj p s data) 0 (∀ i,(pj p s data).inv i → TT 6 (CD ((i : Int) < (p.regs.length : Int)) (TT 7 (IX (i : Int) p.regs.length∧TT 2 (CC (xt p s data 2 ((p.regs.getD i bH).next))∧TT 1 (am [[(i6 ((a7 p s data ((p.regs.getD i bH).next)).1))]] ([(a7 p s data ((p.regs.getD i bH).next)).1].map (af .i64))∧((ap (fun z => (a7 p s data (p.regs.getD z bH).next).1) i).length + ([(a7 p s data ((p.regs.getD i bH).next)).1].map (af .i64)).length ≤ 137438953472∧(ap (fun z => (a7 p s data (p.regs.getD z bH).next).1) i).map (af .i64) ++ [(a7 p s data ((p.regs.getD i bH).next)).1].map (af .i64) = (ap (fun z => (a7 p s data (p.regs.getD z bH).next).1) (i + 1)).map (af .i64))∧TT 3 (W6 ((i + 1 : Nat) : Int)∧TT 1 (AG (pj p s data) i (i + 1))))))) (TT 1 (GO (lr p s data i) 0 (∀ j,(lr p s data i).inv j → TT 6 (CD ((j : Int) < (p.mems.length : Int)) (TT 4 (IX (j : Int) p.mems.length∧TT 3 (am [] (([] : List Int).map (af .i64))∧TT 4 (IX (j : Int) s.mems.length∧TT 1 ((([] : List Int).length + ((s.mems.getD j []).map (af .i64)).length ≤ 137438953472∧([] : List Int).map (af .i64) ++ (s.mems.getD j []).map (af .i64) = (s.mems.getD j []).map (af .i64))∧TT 4 (CC (y7 p s data ((p.mems.getD j aO).enable))∧CB (du p s data ((p.mems.getD j aO).enable)) (TT 4 (CC (xt p s data 2 ((p.mems.getD j aO).addr))∧TT 3 (((p.mems.getD j aO).words) ≠ 0∧TT 3 (CC (xt p s data 2 ((p.mems.getD j aO).data))∧TT 1 (IX (Int.tmod ((a7 p s data ((p.mems.getD j aO).addr)).1) ((p.mems.getD j aO).words)) ((s.mems.getD j []).length)∧((Int.tmod ((a7 p s data ((p.mems.getD j aO).addr)).1) ((p.mems.getD j aO).words)).toNat < (s.mems.getD j []).length∧((s.mems.getD j []).map (af .i64)).set ((Int.tmod ((a7 p s data ((p.mems.getD j aO).addr)).1) ((p.mems.getD j aO).words)).toNat) (((af .i64) ((s.mems.getD j []).getD ((Int.tmod ((a7 p s data ((p.mems.getD j aO).addr)).1) ((p.mems.getD j aO).words)).toNat) 0)).take 0 ++ [(.int .i64 ((a7 p s data ((p.mems.getD j aO).data)).1))] ++ ((af .i64) ((s.mems.getD j []).getD ((Int.tmod ((a7 p s data ((p.mems.getD j aO).addr)).1) ((p.mems.getD j aO).words)).toNat) 0)).drop (0 + 1)) = ((s.mems.getD j []).set ((Int.tmod ((a7 p s data ((p.mems.getD j aO).addr)).1) ((p.mems.getD j aO).words)).toNat) ((a7 p s data ((p.mems.getD j aO).data)).1)).map (af .i64))∧TT 3 (am [[(LI ((s.mems.getD j []).set ((Int.tmod ((a7 p s data ((p.mems.getD j aO).addr)).1) ((p.mems.getD j aO).words)).toNat) ((a7 p s data ((p.mems.getD j aO).data)).1)))]] ([(s.mems.getD j []).set ((Int.tmod ((a7 p s data ((p.mems.getD j aO).addr)).1) ((p.mems.getD j aO).words)).toNat) ((a7 p s data ((p.mems.getD j aO).data)).1)].map ac)∧((ap (py p s data) j).length + ([(s.mems.getD j []).set ((Int.tmod ((a7 p s data ((p.mems.getD j aO).addr)).1) ((p.mems.getD j aO).words)).toNat) ((a7 p s data ((p.mems.getD j aO).data)).1)].map ac).length ≤ 137438953472∧(ap (py p s data) j).map ac ++ [(s.mems.getD j []).set ((Int.tmod ((a7 p s data ((p.mems.getD j aO).addr)).1) ((p.mems.getD j aO).words)).toNat) ((a7 p s data ((p.mems.getD j aO).data)).1)].map ac = (ap (py p s data) (j + 1)).map ac)∧TT 3 (W6 ((j + 1 : Nat) : Int)∧TT 1 (AG (lr p s data i) j (j + 1))))))))) (TT 3 (am [[(LI (s.mems.getD j []))]] ([s.mems.getD j []].map ac)∧((ap (py p s data) j).length + ([s.mems.getD j []].map ac).length ≤ 137438953472∧(ap (py p s data) j).map ac ++ [s.mems.getD j []].map ac = (ap (py p s data) (j + 1)).map ac)∧TT 3 (W6 ((j + 1 : Nat) : Int)∧TT 1 (AG (lr p s data i) j (j + 1))))))))))) (TT 3 ((ap (fun z => (a7 p s data (p.regs.getD z bH).next).1) i).map (af .i64) = ((ce p s data).regs).map (af .i64)∧(ap (py p s data) j).map ac = ((ce p s data).mems).map ac∧True)))))))))) (.g 2 2 0 3 1 (af .i64) 0 <| .l (pj p s data) 0 (fun i => .b 14 (.w 5 [(10,(xt p s data 2 ((p.regs.getD i bH).next)).O),(12,.box 3 1 (af .i64) 0 [(a7 p s data ((p.regs.getD i bH).next)).1]),(13,.box 3 1 (af .i64) 0 (ap (fun z => (a7 p s data (p.regs.getD z bH).next).1) (i + 1)))] <| .w 4 [(1,.val (i6 ((i + 1 : Nat) : Int)))] <| .e) (.g 6 2 1 43 1 ac [] <| .l (lr p s data i) 0 (fun j => .b 37 (.w 10 [(0,.box 3 1 (af .i64) 0 ([] : List Int)),(7,.box 3 1 (af .i64) 0 (s.mems.getD j []))] <| .w 11 [(3,(y7 p s data ((p.mems.getD j aO).enable)).O)] <| .b 57 (.w 12 [(4,(xt p s data 2 ((p.mems.getD j aO).addr)).O),(12,(xt p s data 2 ((p.mems.getD j aO).data)).O),(15,.box 3 1 (af .i64) 0 ((s.mems.getD j []).set ((Int.tmod ((a7 p s data ((p.mems.getD j aO).addr)).1) ((p.mems.getD j aO).words)).toNat) ((a7 p s data ((p.mems.getD j aO).data)).1)))] <| .f 13 6 <| .w 13 [(3,.box 43 1 ac [] [(s.mems.getD j []).set ((Int.tmod ((a7 p s data ((p.mems.getD j aO).addr)).1) ((p.mems.getD j aO).words)).toNat) ((a7 p s data ((p.mems.getD j aO).data)).1)]),(4,.box 43 1 ac [] (ap (py p s data) (j + 1)))] <| .w 8 [(1,.val (i6 ((j + 1 : Nat) : Int)))] <| .e) (.f 13 6 <| .w 13 [(3,.box 43 1 ac [] [s.mems.getD j []]),(4,.box 43 1 ac [] (ap (py p s data) (j + 1)))] <| .w 8 [(1,.val (i6 ((j + 1 : Nat) : Int)))] <| .e)) (.e))))) Tryz.func76 rfl rfl rfl (by kernel_rfl) ?_
 refine tt ⟨rfl,(by omega),?_⟩
 intro i hinv
 have hi := hinv
 refine tt (cd (fun hc14 => ?_) (fun hc14 => ?_))
 · have hrn := hp.rw i (by omega)
   refine tt ⟨ix,tt ⟨(jt ho hmw 2 ((p.regs.getD i bH).next) _ hrn.2.2.1 hrn.2.2.2),tt ⟨⟨⟨rfl,oK⟩,oK⟩,⟨(gF (f := fun z => (a7 p s data (p.regs.getD z bH).next).1) (by omega)),tt ⟨w6,tt ⟨(i + 1),rfl,(?_ : (i + 1) ≤ p.regs.length),(?_ : p.regs.length - (i + 1) < p.regs.length - i)⟩⟩⟩⟩⟩⟩
   · omega
   · omega
 · refine tt ⟨rfl,(by omega),?_⟩
   intro j hinv
   have hj := hinv
   refine tt (cd (fun hc37 => ?_) (fun hc37 => ?_))
   · have hmz : 1 ≤ (p.mems.getD j aO).words∧(p.mems.getD j aO).words ≤ 4 := (hp.mw j (by omega)).2.1
     have hml : ((s.mems.getD j []).length : Int) = (p.mems.getD j aO).words := hso.mn j (by omega)
     have hme := (hp.mw j (by omega)).2.2.1
     have hmb := (hp.mw j (by omega)).2.2.2
     obtain ⟨va,hma⟩ := hmb.1.1
     have had : 0 ≤ Int.tmod (a7 p s data (p.mems.getD j aO).addr).1 (p.mems.getD j aO).words∧Int.tmod (a7 p s data (p.mems.getD j aO).addr).1 (p.mems.getD j aO).words < (s.mems.getD j []).length∧(p.mems.getD j aO).words ≠ 0 := z5 hp hso hda (show j < p.mems.length by omega)
     refine tt ⟨ix,tt ⟨oK,tt ⟨ix,tt ⟨⟨by simp only [List.length_map,List.length_nil]; omega,by simp⟩,tt ⟨(sP p s data ((p.mems.getD j aO).enable) ho hmw hme.1 hme.2),⟨fun hc57 => ?_,fun hc57 => ?_⟩⟩⟩⟩⟩⟩
     · refine tt ⟨(jt ho hmw 2 ((p.mems.getD j aO).addr) _ hma hmb.1.2),tt ⟨om,tt ⟨(jt ho hmw 2 ((p.mems.getD j aO).data) _ hmb.2.1 hmb.2.2),tt ⟨ix,⟨⟨om,by simp only [List.map_set]; rfl⟩,tt ⟨⟨⟨rfl,oK⟩,oK⟩,⟨(bw (by omega) (by first | exact vo hc57 | exact z4 (by rw [hc57]; simp))),tt ⟨w6,tt ⟨(j + 1),rfl,(?_ : (j + 1) ≤ p.mems.length),(?_ : p.mems.length - (j + 1) < p.mems.length - j)⟩⟩⟩⟩⟩⟩⟩⟩⟩
       · omega
       · omega
     · refine tt ⟨⟨⟨rfl,oK⟩,oK⟩,⟨(bw (by omega) (by first | exact vo hc57 | exact z4 (by rw [hc57]; simp))),tt ⟨w6,tt ⟨(j + 1),rfl,(?_ : (j + 1) ≤ p.mems.length),(?_ : p.mems.length - (j + 1) < p.mems.length - j)⟩⟩⟩⟩
       · omega
       · omega
   · refine tt ⟨(congrArg _ (?_ : (ap (fun z => (a7 p s data (p.regs.getD z bH).next).1) i) = ((ce p s data).regs))),(congrArg _ (?_ : (ap (py p s data) j) = ((ce p s data).mems))),oK⟩
     · rw [show i = p.regs.length by omega]; rfl
     · rw [show j = p.mems.length by omega]; rfl
abbrev Jy (p : Pr) (s : Ps) (hs : List Hd) (rs : List Bool) : Ct := ⟨50,[(Aq p),(.agg (lq s)),(.agg [(dL 2 bo aJ hs),(LB rs)])],true,(.agg [(dB ((aP p s hs rs).fires)),(LI (((aP p s hs rs).s).regs)),(dL 1 ac [] (((aP p s hs rs).s).mems)),(LB ((aP p s hs rs).pops)),(dL 2 bo aJ ((aP p s hs rs).puts))])⟩
abbrev gR (p : Pr) (s : Ps) (hs : List Hd) (rs : List Bool) : Lp (Nat × Bool) := rX [3,5,6,7,8,9] 16 (fun (i : Nat) (fir : Bool) => ⟨[(3,iR),(5,(.ptr 2 0 0 0)),(6,(.ptr 3 0 0 0)),(7,(.ptr 4 0 0 0)),(8,(.ptr 15 0 0 0)),(9,(i6 (i : Int)))],[(mQ p),(.var 45 (lq s)),(.var 121 [(dL 2 bo aJ hs),(LB rs)]),Ar,(Ap p s hs),.dead,.dead,.dead,.dead,(.arr 4 1 aK false (List.replicate p.takes.length false)),.dead,.dead,.dead,(.arr 68 2 bo aJ (List.replicate p.puts.length aJ)),.dead,(.var 48 [(dB fir),(LI s.regs),(dL 1 ac [] s.mems),(.own 9),(.own 13)])]⟩) (fun (i : Nat) (fir : Bool) => i ≤ p.takes.length∧fir = de (gE p s hs) i) (fun (i : Nat) (fir : Bool) => p.takes.length - i)
abbrev gS (p : Pr) (s : Ps) (hs : List Hd) (rs : List Bool) (fir : Bool) : Lp (Nat × Bool) := rX [3,5,6,7,8,10] 16 (fun (m : Nat) (fi2 : Bool) => ⟨[(3,iR),(5,(.ptr 2 0 0 0)),(6,(.ptr 3 0 0 0)),(7,(.ptr 4 0 0 0)),(8,(.ptr 15 0 0 0)),(10,(i6 (m : Int)))],[(mQ p),(.var 45 (lq s)),(.var 121 [(dL 2 bo aJ hs),(LB rs)]),Ar,(Ap p s hs),.dead,.dead,.dead,.dead,(.arr 4 1 aK false (List.replicate p.takes.length false)),.dead,.dead,.dead,(.arr 68 2 bo aJ (List.replicate p.puts.length aJ)),.dead,(.var 48 [(dB fi2),(LI s.regs),(dL 1 ac [] s.mems),(.own 9),(.own 13)])]⟩) (fun (m : Nat) (fi2 : Bool) => m ≤ p.puts.length∧fi2 = (fir && de (jg p s hs rs) m)) (fun (m : Nat) (fi2 : Bool) => p.puts.length - m)
abbrev mi (p : Pr) (s : Ps) (hs : List Hd) (rs : List Bool) (fi2 : Bool) : Lp (Nat × List Bool) := rX [3,6,7,8,11] 16 (fun (q : Nat) (pop : List Bool) => ⟨[(3,iR),(6,(.ptr 3 0 0 0)),(7,(.ptr 4 0 0 0)),(8,(.ptr 15 0 0 0)),(11,(i6 (q : Int)))],[(mQ p),(.var 45 (lq s)),(.var 121 [(dL 2 bo aJ hs),(LB rs)]),Ar,(Ap p s hs),.dead,.dead,.dead,.dead,(.arr 4 1 aK false pop),.dead,.dead,.dead,(.arr 68 2 bo aJ (List.replicate p.puts.length aJ)),.dead,(.var 48 [(dB fi2),(LI ((ce p s (bO p s hs)).regs)),(dL 1 ac [] ((ce p s (bO p s hs)).mems)),(.own 9),(.own 13)])]⟩) (fun (q : Nat) (pop : List Bool) => q ≤ p.takes.length∧pop = b6 (kY p s hs) (List.replicate p.takes.length false) q) (fun (q : Nat) (pop : List Bool) => p.takes.length - q)
abbrev ju (p : Pr) (s : Ps) (hs : List Hd) (rs : List Bool) (fi2 : Bool) (pop : List Bool) : Lp (Nat × List Hd) := rX [3,6,7,8,12] 16 (fun (t : Nat) (put : List Hd) => ⟨[(3,iR),(6,(.ptr 3 0 0 0)),(7,(.ptr 4 0 0 0)),(8,(.ptr 15 0 0 0)),(12,(i6 (t : Int)))],[(mQ p),(.var 45 (lq s)),(.var 121 [(dL 2 bo aJ hs),(LB rs)]),Ar,(Ap p s hs),.dead,.dead,.dead,.dead,(.arr 4 1 aK false pop),.dead,.dead,.dead,(.arr 68 2 bo aJ put),.dead,(.var 48 [(dB fi2),(LI ((ce p s (bO p s hs)).regs)),(dL 1 ac [] ((ce p s (bO p s hs)).mems)),(.own 9),(.own 13)])]⟩) (fun (t : Nat) (put : List Hd) => t ≤ p.puts.length∧put = b6 (kZ p s hs) (List.replicate p.puts.length aJ) t) (fun (t : Nat) (put : List Hd) => p.puts.length - t)
theorem BI (p : Pr) (s : Ps) (hs : List Hd) (rs : List Bool) (hp : fq p) (hso : nj p s) (hh : wS p hs) (hrs : rs.length = p.puts.length) : CC (Jy p s hs rs) := by
 have ht1 := hp.tl
 have ht2 := hp.pl
 have hhl := hh.l
 have hmw := hso.mn
 have ho := fV hp hso (sr (s := s) (hs := hs) hp hh)
 have hda := sr (s := s) (hs := hs) hp hh
 refine ai.vc (V := TT 7 (CC (Jw p s hs rs)∧TT 6 ((((0 : Int) ≤ (p.takes.length : Int)∧(p.takes.length : Int) ≤ (p.takes.length : Int)∧(p.takes.length : Int) ≤ 137438953472)∧(List.replicate p.takes.length false).length = p.takes.length∧∀ x ∈ (List.replicate p.takes.length false),cy [(dB false)] (aK x))∧TT 3 ((((0 : Int) ≤ (p.puts.length : Int)∧(p.puts.length : Int) ≤ (p.puts.length : Int)∧(p.puts.length : Int) ≤ 137438953472)∧(List.replicate p.puts.length aJ).length = p.puts.length∧∀ x ∈ (List.replicate p.puts.length aJ),cy [(dB false),(i6 0)] (bo x))∧TT 4 (GO (gR p s hs rs) (0,true) (∀ i fir,(gR p s hs rs).inv (i,fir) → TT 5 (CD ((i : Int) < (p.takes.length : Int)) (CS (fir = true) (CS (((hs.getD i aJ).has) = true) (TT 2 ((True∧fir = true)∧TT 3 (IX (i : Int) hs.length∧TT 2 ((True∧((hs.getD i aJ).has) = true)∧TT 5 (W6 ((i + 1 : Nat) : Int)∧TT 1 (AG (gR p s hs rs) (i,fir) (i + 1,true))))))) (TT 2 ((True∧fir = true)∧TT 3 (IX (i : Int) hs.length∧TT 2 ((True∧((hs.getD i aJ).has) = false)∧TT 4 (IX (i : Int) p.takes.length∧TT 2 (CC (y7 p s (bO p s hs) ((p.takes.getD i bn).when))∧TT 6 (W6 ((i + 1 : Nat) : Int)∧TT 1 (AG (gR p s hs rs) (i,fir) (i + 1,!(du p s (bO p s hs) ((p.takes.getD i bn).when)))))))))))) (TT 2 ((True∧fir = false)∧TT 4 (W6 ((i + 1 : Nat) : Int)∧TT 1 (AG (gR p s hs rs) (i,fir) (i + 1,false)))))) (TT 1 (GO (gS p s hs rs fir) (0,fir) (∀ m fi2,(gS p s hs rs fir).inv (m,fi2) → TT 5 (CD ((m : Int) < (p.puts.length : Int)) (CS (fi2 = true) (CS ((rs.getD m false) = true) (TT 2 ((True∧fi2 = true)∧TT 3 (IX (m : Int) rs.length∧TT 1 ((True∧(rs.getD m false) = true)∧TT 5 (W6 ((m + 1 : Nat) : Int)∧TT 1 (AG (gS p s hs rs fir) (m,fi2) (m + 1,true))))))) (TT 2 ((True∧fi2 = true)∧TT 3 (IX (m : Int) rs.length∧TT 1 ((True∧(rs.getD m false) = false)∧TT 4 (IX (m : Int) p.puts.length∧TT 2 (CC (y7 p s (bO p s hs) ((p.puts.getD m aY).when))∧TT 6 (W6 ((m + 1 : Nat) : Int)∧TT 1 (AG (gS p s hs rs fir) (m,fi2) (m + 1,!(du p s (bO p s hs) ((p.puts.getD m aY).when)))))))))))) (TT 2 ((True∧fi2 = false)∧TT 4 (W6 ((m + 1 : Nat) : Int)∧TT 1 (AG (gS p s hs rs fir) (m,fi2) (m + 1,false)))))) (TT 3 (CB (!fi2) (TT 3 (fi2 = ((aP p s hs rs).fires)∧s.regs.map (af .i64) = (((aP p s hs rs).s).regs).map (af .i64)∧s.mems.map ac = (((aP p s hs rs).s).mems).map ac∧(List.replicate p.takes.length false).map aK = ((aP p s hs rs).pops).map aK∧(List.replicate p.puts.length aJ).map bo = ((aP p s hs rs).puts).map bo∧True)) (TT 1 (CC (Jx p s (bO p s hs))∧TT 3 (GO (mi p s hs rs fi2) (0,List.replicate p.takes.length false) (∀ q pop,(mi p s hs rs fi2).inv (q,pop) → TT 5 (CD ((q : Int) < (p.takes.length : Int)) (TT 7 (IX (q : Int) p.takes.length∧TT 2 (CC (y7 p s (bO p s hs) ((p.takes.getD q bn).when))∧IX (q : Int) pop.length∧(q < pop.length∧(pop.map aK).set q ((aK (pop.getD q false)).take 0 ++ [(.bool (du p s (bO p s hs) ((p.takes.getD q bn).when)))] ++ (aK (pop.getD q false)).drop (0 + 1)) = (pop.set q (du p s (bO p s hs) ((p.takes.getD q bn).when))).map aK)∧TT 1 (W6 ((q + 1 : Nat) : Int)∧TT 1 (AG (mi p s hs rs fi2) (q,pop) (q + 1,pop.set q (du p s (bO p s hs) ((p.takes.getD q bn).when)))))))) (TT 1 (GO (ju p s hs rs fi2 pop) (0,List.replicate p.puts.length aJ) (∀ t put,(ju p s hs rs fi2 pop).inv (t,put) → TT 5 (CD ((t : Int) < (p.puts.length : Int)) (TT 4 (IX (t : Int) p.puts.length∧TT 2 (CC (y7 p s (bO p s hs) ((p.puts.getD t aY).when))∧CB (du p s (bO p s hs) ((p.puts.getD t aY).when)) (TT 7 (IX (t : Int) p.puts.length∧TT 2 (CC (xt p s (bO p s hs) 2 ((p.puts.getD t aY).data))∧TT 2 (IX (t : Int) put.length∧(t < put.length∧(put.map bo).set t ((bo (put.getD t aJ)).take 0 ++ [(.bool true),(.int .i64 ((a7 p s (bO p s hs) ((p.puts.getD t aY).data)).1))] ++ (bo (put.getD t aJ)).drop (0 + 2)) = (put.set t (⟨true,(a7 p s (bO p s hs) ((p.puts.getD t aY).data)).1⟩ : Hd)).map bo)∧TT 1 (W6 ((t + 1 : Nat) : Int)∧TT 1 (AG (ju p s hs rs fi2 pop) (t,put) (t + 1,put.set t (⟨true,(a7 p s (bO p s hs) ((p.puts.getD t aY).data)).1⟩ : Hd)))))))) (TT 1 (W6 ((t + 1 : Nat) : Int)∧TT 1 (AG (ju p s hs rs fi2 pop) (t,put) (t + 1,put))))))) (TT 3 (fi2 = ((aP p s hs rs).fires)∧((ce p s (bO p s hs)).regs).map (af .i64) = (((aP p s hs rs).s).regs).map (af .i64)∧((ce p s (bO p s hs)).mems).map ac = (((aP p s hs rs).s).mems).map ac∧pop.map aK = ((aP p s hs rs).pops).map aK∧put.map bo = ((aP p s hs rs).puts).map bo∧True)))))))))))))))))))))))) (.w 1 [(3,(Jw p s hs rs).O)] <| .w 2 [(4,.box 4 1 aK false (List.replicate p.takes.length false)),(8,.box 68 2 bo aJ (List.replicate p.puts.length aJ))] <| .l (gR p s hs rs) (0,true) (fun ⟨i,fir⟩ => .b 31 (.s 6 (fir = true) (.s 6 (((hs.getD i aJ).has) = true) (.w 6 [(2,.val (dB true)),(9,.val (dB true))] <| .w 5 [(1,.val (i6 ((i + 1 : Nat) : Int)))] <| .e) (.w 6 [(2,.val (dB true)),(9,.val (dB false)),(17,(y7 p s (bO p s hs) ((p.takes.getD i bn).when)).O)] <| .w 5 [(1,.val (i6 ((i + 1 : Nat) : Int)))] <| .e)) (.w 6 [(2,.val (dB false))] <| .w 5 [(1,.val (i6 ((i + 1 : Nat) : Int)))] <| .e)) (.l (gS p s hs rs fir) (0,fir) (fun ⟨m,fi2⟩ => .b 60 (.s 10 (fi2 = true) (.s 10 ((rs.getD m false) = true) (.w 10 [(2,.val (dB true)),(8,.val (dB true))] <| .w 9 [(1,.val (i6 ((m + 1 : Nat) : Int)))] <| .e) (.w 10 [(2,.val (dB true)),(8,.val (dB false)),(16,(y7 p s (bO p s hs) ((p.puts.getD m aY).when)).O)] <| .w 9 [(1,.val (i6 ((m + 1 : Nat) : Int)))] <| .e)) (.w 10 [(2,.val (dB false))] <| .w 9 [(1,.val (i6 ((m + 1 : Nat) : Int)))] <| .e)) (.b 86 (.e) (.w 13 [(1,(Jx p s (bO p s hs)).O)] <| .l (mi p s hs rs fi2) (0,List.replicate p.takes.length false) (fun ⟨q,pop⟩ => .b 95 (.w 17 [(10,(y7 p s (bO p s hs) ((p.takes.getD q bn).when)).O),(12,.box 4 1 aK false (pop.set q (du p s (bO p s hs) ((p.takes.getD q bn).when))))] <| .w 16 [(1,.val (i6 ((q + 1 : Nat) : Int)))] <| .e) (.l (ju p s hs rs fi2 pop) (0,List.replicate p.puts.length aJ) (fun ⟨t,put⟩ => .b 114 (.w 21 [(7,(y7 p s (bO p s hs) ((p.puts.getD t aY).when)).O)] <| .b 124 (.w 22 [(10,(xt p s (bO p s hs) 2 ((p.puts.getD t aY).data)).O),(14,.box 68 2 bo aJ (put.set t (⟨true,(a7 p s (bO p s hs) ((p.puts.getD t aY).data)).1⟩ : Hd)))] <| .w 20 [(1,.val (i6 ((t + 1 : Nat) : Int)))] <| .e) (.w 20 [(1,.val (i6 ((t + 1 : Nat) : Int)))] <| .e)) (.e)))))))))) Tryz.func50 rfl rfl rfl (by kernel_rfl) ?_
 refine tt ⟨(y8 p s hs rs hp hso hh),tt ⟨⟨by omega,List.length_replicate,fun x hx => by rw [List.eq_of_mem_replicate hx]; exact ⟨rfl,oK⟩⟩,tt ⟨⟨by omega,List.length_replicate,fun x hx => by rw [List.eq_of_mem_replicate hx]; exact ⟨rfl,rfl,oK⟩⟩,tt ⟨rfl,⟨by omega,rfl⟩,?_⟩⟩⟩⟩
 intro i fir hinv
 obtain ⟨hi,hfir⟩ := hinv
 refine tt (cd (fun hc31 => ?_) (fun hc31 => ?_))
 · have hwh := ri hp (show i < p.takes.length by omega)
   refine ⟨fun hs0 => ?_,fun hs0 => ?_⟩
   · refine ⟨fun hs1 => ?_,fun hs1 => ?_⟩
     · refine tt ⟨(bT hs0),tt ⟨ix,tt ⟨(bT hs1),tt ⟨w6,tt ⟨(i + 1,true),rfl,?_,(?_ : p.takes.length - (i + 1) < p.takes.length - i)⟩⟩⟩⟩⟩
       · exact ⟨by omega,k9 hfir _ (by unfold gE; clear hfir; cases fir <;> simp_all)⟩
       · omega
     · refine tt ⟨(bT hs0),tt ⟨ix,tt ⟨(bF hs1),tt ⟨ix,tt ⟨(sP p s (bO p s hs) ((p.takes.getD i bn).when) ho hmw hwh.1 hwh.2),tt ⟨w6,tt ⟨(i + 1,!(du p s (bO p s hs) ((p.takes.getD i bn).when))),rfl,?_,(?_ : p.takes.length - (i + 1) < p.takes.length - i)⟩⟩⟩⟩⟩⟩⟩
       · exact ⟨by omega,k9 hfir _ (by unfold gE; clear hfir; cases fir <;> simp_all)⟩
       · omega
   · refine tt ⟨(bF hs0),tt ⟨w6,tt ⟨(i + 1,false),rfl,?_,(?_ : p.takes.length - (i + 1) < p.takes.length - i)⟩⟩⟩
     · exact ⟨by omega,k9 hfir _ (by unfold gE; clear hfir; cases fir <;> simp_all)⟩
     · omega
 · refine tt ⟨rfl,⟨by omega,by simp [de]⟩,?_⟩
   intro m fi2 hinv
   obtain ⟨hm,hfi2⟩ := hinv
   refine tt (cd (fun hc60 => ?_) (fun hc60 => ?_))
   · have hpw := hp.pw m (by omega)
     refine ⟨fun hs2 => ?_,fun hs2 => ?_⟩
     · refine ⟨fun hs3 => ?_,fun hs3 => ?_⟩
       · refine tt ⟨(bT hs2),tt ⟨ix,tt ⟨(bT hs3),tt ⟨w6,tt ⟨(m + 1,true),rfl,?_,(?_ : p.puts.length - (m + 1) < p.puts.length - m)⟩⟩⟩⟩⟩
         · exact ⟨by omega,qa hfi2 _ (by unfold jg; clear hfi2 hfir; cases fi2 <;> simp_all)⟩
         · omega
       · refine tt ⟨(bT hs2),tt ⟨ix,tt ⟨(bF hs3),tt ⟨ix,tt ⟨(sP p s (bO p s hs) ((p.puts.getD m aY).when) ho hmw hpw.2.1.1 hpw.2.1.2),tt ⟨w6,tt ⟨(m + 1,!(du p s (bO p s hs) ((p.puts.getD m aY).when))),rfl,?_,(?_ : p.puts.length - (m + 1) < p.puts.length - m)⟩⟩⟩⟩⟩⟩⟩
         · exact ⟨by omega,qa hfi2 _ (by unfold jg; clear hfi2 hfir; cases fi2 <;> simp_all)⟩
         · omega
     · refine tt ⟨(bF hs2),tt ⟨w6,tt ⟨(m + 1,false),rfl,?_,(?_ : p.puts.length - (m + 1) < p.puts.length - m)⟩⟩⟩
       · exact ⟨by omega,qa hfi2 _ (by unfold jg; clear hfi2 hfir; cases fi2 <;> simp_all)⟩
       · omega
   · have hie : i = p.takes.length := by omega
     have hme : m = p.puts.length := by omega
     refine tt ⟨fun hc86 => ?_,fun hc86 => ?_⟩
     · refine tt ⟨?_,(congrArg _ (?_ : s.regs = (((aP p s hs rs).s).regs))),(congrArg _ (?_ : s.mems = (((aP p s hs rs).s).mems))),(congrArg _ (?_ : (List.replicate p.takes.length false) = ((aP p s hs rs).pops))),(congrArg _ (?_ : (List.replicate p.puts.length aJ) = ((aP p s hs rs).puts))),oK⟩
       all_goals
         rw [zW (by rw [lL (rs := rs) (a := fir) (b := fi2) (by rw [hfir,hie]) (by rw [hfi2,hme])]; simpa using hc86)]
         first | done | rfl | simpa using hc86
     · refine tt ⟨(DY p s (bO p s hs) hp hso hda),tt ⟨rfl,⟨by omega,rfl⟩,?_⟩⟩
       intro q pop hinv
       obtain ⟨hq,hpop⟩ := hinv
       have hpl : pop.length = p.takes.length := by rw [hpop,cY (by rw [List.length_replicate]; exact hq),List.length_replicate]
       refine tt (cd (fun hc95 => ?_) (fun hc95 => ?_))
       · have hwh := ri hp (show q < p.takes.length by omega)
         refine tt ⟨ix,tt ⟨(sP p s (bO p s hs) ((p.takes.getD q bn).when) ho hmw hwh.1 hwh.2),⟨ix,⟨⟨om,by simp only [List.map_set]; rfl⟩,tt ⟨w6,tt ⟨(q + 1,pop.set q (du p s (bO p s hs) ((p.takes.getD q bn).when))),rfl,?_,(?_ : p.takes.length - (q + 1) < p.takes.length - q)⟩⟩⟩⟩⟩⟩
         · exact ⟨by omega,by rw [hpop]; exact bK (by rw [List.length_replicate]; omega) rfl⟩
         · omega
       · refine tt ⟨rfl,⟨by omega,rfl⟩,?_⟩
         intro t put hinv
         obtain ⟨ht,hput⟩ := hinv
         have hql : put.length = p.puts.length := by rw [hput,cY (by rw [List.length_replicate]; exact ht),List.length_replicate]
         refine tt (cd (fun hc114 => ?_) (fun hc114 => ?_))
         · have hpw := hp.pw t (by omega)
           refine tt ⟨ix,tt ⟨(sP p s (bO p s hs) ((p.puts.getD t aY).when) ho hmw hpw.2.1.1 hpw.2.1.2),⟨fun hc124 => ?_,fun hc124 => ?_⟩⟩⟩
           · refine tt ⟨ix,tt ⟨(jt ho hmw 2 ((p.puts.getD t aY).data) _ hpw.2.2.1 hpw.2.2.2),tt ⟨ix,⟨⟨om,by simp only [List.map_set]; rfl⟩,tt ⟨w6,tt ⟨(t + 1,put.set t (⟨true,(a7 p s (bO p s hs) ((p.puts.getD t aY).data)).1⟩ : Hd)),rfl,?_,(?_ : p.puts.length - (t + 1) < p.puts.length - t)⟩⟩⟩⟩⟩⟩
             · exact ⟨by omega,by rw [hput]; exact bK (by rw [List.length_replicate]; omega) (if_pos hc124)⟩
             · omega
           · refine tt ⟨w6,tt ⟨(t + 1,put),rfl,?_,(?_ : p.puts.length - (t + 1) < p.puts.length - t)⟩⟩
             · exact ⟨by omega,by rw [hput]; exact bD (d := aJ) (by rw [List.length_replicate]; omega) ((if_neg (by rw [hc124]; simp)).trans bQ.symm)⟩
             · omega
         · refine tt ⟨?_,(congrArg _ (?_ : ((ce p s (bO p s hs)).regs) = (((aP p s hs rs).s).regs))),(congrArg _ (?_ : ((ce p s (bO p s hs)).mems) = (((aP p s hs rs).s).mems))),(congrArg _ (?_ : pop = ((aP p s hs rs).pops))),(congrArg _ (?_ : put = ((aP p s hs rs).puts))),oK⟩
           all_goals
             rw [vn (by rw [lL (rs := rs) (a := fir) (b := fi2) (by rw [hfir,hie]) (by rw [hfi2,hme])]; simpa using hc86)]
             first | done | (simpa using hc86) | (rw [hpop,show q = p.takes.length by omega,cE (by rw [List.length_replicate]; exact Nat.le_refl _)]) | (rw [hput,show t = p.puts.length by omega,cE (by rw [List.length_replicate]; exact Nat.le_refl _)])
abbrev y9 (a b : List Int) : Ct := ⟨18,[(LI a),(LI b)],false,(dB (decide (a = b)))⟩
abbrev rp (a : List Int) (b : List Int) : Lp (Nat) := ga [0,1,5] 0 (fun (k : Nat) => ⟨[(0,(LI a)),(1,(LI b)),(5,(i6 (k : Int)))],[]⟩) (fun (k : Nat) => k ≤ a.length∧∀ z,z < k → a.getD z 0 = b.getD z 0) (fun (k : Nat) => a.length - k)
theorem j8 (a b : List Int) (ha : a.length ≤ 9223372036854775807) : CC (y9 a b) := by
 refine ai.vc (V := TT 6 (CN ((a.length : Int) = (b.length : Int)) (TT 2 (false = (decide (a = b))∧True)) (TT 1 (GO (rp a b) 0 (∀ k,(rp a b).inv k → TT 4 (CD ((k : Int) < (a.length : Int)) (TT 2 (IX (k : Int) a.length∧TT 3 (IX (k : Int) b.length∧TT 2 (CN ((a.getD k 0) = (b.getD k 0)) (TT 2 (false = (decide (a = b))∧True)) (TT 1 (W6 ((k + 1 : Nat) : Int)∧TT 1 (AG (rp a b) k (k + 1)))))))) (TT 2 (true = (decide (a = b))∧True)))))))) (.b 10 (.e) (.l (rp a b) 0 (fun k => .b 14 (.b 25 (.e) (.w 5 [(1,.val (i6 ((k + 1 : Nat) : Int)))] <| .e)) (.e)))) Tryz.func18 rfl rfl rfl (by kernel_rfl) ?_
 refine tt (cn (fun hc10 => ?_) (fun hc10 => ?_))
 · refine tt ⟨?_,oK⟩
   first | exact (decide_eq_false (fun e => by subst e; omega)).symm | exact (decide_eq_false (same_no (k := k) (by simpa using hc25))).symm | exact (decide_eq_true (dA (by omega) (by omega) hall)).symm
 · refine tt ⟨rfl,⟨by omega,fun z hz => by omega⟩,?_⟩
   intro k hinv
   obtain ⟨hk,hall⟩ := hinv
   refine tt (cd (fun hc14 => ?_) (fun hc14 => ?_))
   · refine tt ⟨ix,tt ⟨ix,tt (cn (fun hc25 => ?_) (fun hc25 => ?_))⟩⟩
     · refine tt ⟨?_,oK⟩
       first | exact (decide_eq_false (fun e => by subst e; omega)).symm | exact (decide_eq_false (same_no (k := k) (by simpa using hc25))).symm | exact (decide_eq_true (dA (by omega) (by omega) hall)).symm
     · refine tt ⟨w6,tt ⟨(k + 1),rfl,?_,(?_ : a.length - (k + 1) < a.length - k)⟩⟩
       · exact ⟨by omega,bU hall (by simpa using hc25)⟩
       · omega
   · refine tt ⟨?_,oK⟩
     first | exact (decide_eq_false (fun e => by subst e; omega)).symm | exact (decide_eq_false (same_no (k := k) (by simpa using hc25))).symm | exact (decide_eq_true (dA (by omega) (by omega) hall)).symm
abbrev Jz (a b : Ps) : Ct := ⟨17,[(.agg [(LI a.regs),(dL 1 ac [] a.mems)]),(.agg [(LI b.regs),(dL 1 ac [] b.mems)])],false,(dB (dF a b))⟩
abbrev mj (a : Ps) (b : Ps) : Lp (Nat) := ga [2,3,5] 2 (fun (k : Nat) => ⟨[(2,iR),(3,(.ptr 1 0 0 0)),(5,(i6 (k : Int)))],[(.var 45 [(LI a.regs),(dL 1 ac [] a.mems)]),(.var 45 [(LI b.regs),(dL 1 ac [] b.mems)])]⟩) (fun (k : Nat) => k ≤ a.mems.length∧∀ z,z < k → a.mems.getD z [] = b.mems.getD z []) (fun (k : Nat) => a.mems.length - k)
theorem BJ (a b : Ps) (ha : a.regs.length ≤ 9223372036854775807) (hb : a.mems.length ≤ 9223372036854775807) (hc : ∀ i,(a.mems.getD i []).length ≤ 9223372036854775807) : CC (Jz a b) := by
 refine ai.vc (V := TT 3 (CS (a.regs = b.regs) (TT 4 (CC (y9 a.regs b.regs)∧TT 1 ((True∧(!decide (a.regs = b.regs)) = false)∧TT 8 (CN ((a.mems.length : Int) = (b.mems.length : Int)) (TT 2 (false = (dF a b)∧True)) (TT 1 (GO (mj a b) 0 (∀ k,(mj a b).inv k → TT 5 (CD ((k : Int) < (a.mems.length : Int)) (TT 3 (IX (k : Int) a.mems.length∧TT 4 (IX (k : Int) b.mems.length∧TT 1 (CC (y9 (a.mems.getD k []) (b.mems.getD k []))∧TT 1 (CN ((a.mems.getD k []) = (b.mems.getD k [])) (TT 2 (false = (dF a b)∧True)) (TT 1 (W6 ((k + 1 : Nat) : Int)∧TT 1 (AG (mj a b) k (k + 1))))))))) (TT 2 (true = (dF a b)∧True)))))))))) (TT 4 (CC (y9 a.regs b.regs)∧TT 1 ((True∧(!decide (a.regs = b.regs)) = true)∧TT 10 (false = (dF a b)∧True)))))) (.s 1 (a.regs = b.regs) (.w 1 [(4,(y9 a.regs b.regs).O),(6,.val (dB false))] <| .b 20 (.e) (.l (mj a b) 0 (fun k => .b 25 (.w 6 [(10,(y9 (a.mems.getD k []) (b.mems.getD k [])).O)] <| .b 39 (.e) (.w 5 [(1,.val (i6 ((k + 1 : Nat) : Int)))] <| .e)) (.e)))) (.w 1 [(4,(y9 a.regs b.regs).O),(6,.val (dB true))] <| .e)) Tryz.func17 rfl rfl rfl (by kernel_rfl) ?_
 refine tt ⟨fun hs0 => ?_,fun hs0 => ?_⟩
 · refine tt ⟨(j8 a.regs b.regs ha),tt ⟨(nF hs0),tt (cn (fun hc20 => ?_) (fun hc20 => ?_))⟩⟩
   · refine tt ⟨?_,oK⟩
     first | exact (jN (by simpa using hs0)).symm | exact (jO (by omega)).symm | exact (jP (i := k) (by simpa using hc39)).symm | exact (jQ (by simpa using hs0) (dA (by omega) (by omega) hall)).symm
   · refine tt ⟨rfl,⟨by omega,fun z hz => by omega⟩,?_⟩
     intro k hinv
     obtain ⟨hk,hall⟩ := hinv
     refine tt (cd (fun hc25 => ?_) (fun hc25 => ?_))
     · refine tt ⟨ix,tt ⟨ix,tt ⟨(j8 (a.mems.getD k []) (b.mems.getD k []) (hc k)),tt (cn (fun hc39 => ?_) (fun hc39 => ?_))⟩⟩⟩
       · refine tt ⟨?_,oK⟩
         first | exact (jN (by simpa using hs0)).symm | exact (jO (by omega)).symm | exact (jP (i := k) (by simpa using hc39)).symm | exact (jQ (by simpa using hs0) (dA (by omega) (by omega) hall)).symm
       · refine tt ⟨w6,tt ⟨(k + 1),rfl,?_,(?_ : a.mems.length - (k + 1) < a.mems.length - k)⟩⟩
         · exact ⟨by omega,bU hall (by simpa using hc39)⟩
         · omega
     · refine tt ⟨?_,oK⟩
       first | exact (jN (by simpa using hs0)).symm | exact (jO (by omega)).symm | exact (jP (i := k) (by simpa using hc39)).symm | exact (jQ (by simpa using hs0) (dA (by omega) (by omega) hall)).symm
 · refine tt ⟨(j8 a.regs b.regs ha),tt ⟨(nT hs0),tt ⟨?_,oK⟩⟩⟩
   first | exact (jN (by simpa using hs0)).symm | exact (jO (by omega)).symm | exact (jP (i := k) (by simpa using hc39)).symm | exact (jQ (by simpa using hs0) (dA (by omega) (by omega) hall)).symm
end Go.Proofs.YtifoecfajmnjjaaGreat
