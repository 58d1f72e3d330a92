/-
  The reference of package process.
-/
import Derived.Test.YtgmpoenfoacofaaGreatQPrA
import Derived.Test.YtgmpoenfoacofaaGreatQPrT
import Derived.Test.YtgmpoenfoacofaaGreatQVrA
namespace Go.Proofs.YtgmpoenfoacofaaGreat
open Go.RowKit
set_option linter.unusedVariables false
set_option linter.unusedSimpArgs false
abbrev mJ (p : Pr) : aA := (.var 82 [(dS p.name),(dS p.clock),(dL 13 iE bI p.regs),(dL 27 pD aI p.mems),(dL 9 i7 bK p.takes),(dL 16 gF bn p.puts)])
abbrev BK (p : Pr) (s : Ps) (hs : List Hd) : aA := (.var 205 [(dS p.name),(dS p.clock),(dL 13 iE bI p.regs),(dL 27 pD aI p.mems),(dL 9 i7 bK p.takes),(dL 16 gF bn p.puts),(LI s.regs),(dL 1 ac [] s.mems),(LI (bM p s hs))])
abbrev BL (p : Pr) : D := (.agg [(dS p.name),(dS p.clock),(dL 13 iE bI p.regs),(dL 27 pD aI p.mems),(dL 9 i7 bK p.takes),(dL 16 gF bn p.puts)])
abbrev FG (p : Pr) (s : Ps) (data : List Int) : aA := (.var 205 [(dS p.name),(dS p.clock),(dL 13 iE bI p.regs),(dL 27 pD aI p.mems),(dL 9 i7 bK p.takes),(dL 16 gF bn p.puts),(LI s.regs),(dL 1 ac [] s.mems),(LI data)])
abbrev FH (p : Pr) (s : Ps) (data : List Int) : D := (.agg [(dS p.name),(dS p.clock),(dL 13 iE bI p.regs),(dL 27 pD aI p.mems),(dL 9 i7 bK p.takes),(dL 16 gF bn p.puts),(LI s.regs),(dL 1 ac [] s.mems),(LI data)])
abbrev lh (s : Ps) : List D := [(LI s.regs),(dL 1 ac [] s.mems)]
abbrev BM : aA := (.var 179 [(dB false),.nils,.nils,.nils,.nils])
abbrev jm : D := (.ptr 0 0 0 0)
set_option maxRecDepth 100000
abbrev J4 (v w : Int) : Ct := ⟨68,[(i6 v),(i6 w)],false,(dB (c8 v w))⟩
theorem yD (v w : Int) (h1 : 0 ≤ w) (h2 : w ≤ 62) : CC (J4 v w) := by
 refine ah.vc (V := TT 1 (CS (v ≥ 0) (TT 2 ((True∧(decide (v ≥ 0)) = true)∧TT 2 ((True∧IntKind.u64.wrap w = w)∧(0 ≤ w∧(Int.fdiv v (2 ^ min w.toNat 64)) = (v / 2 ^ w.toNat))∧TT 4 (((v / 2 ^ w.toNat) == 0) = (c8 v w)∧True)))) (TT 2 ((True∧(decide (v ≥ 0)) = false)∧TT 8 (false = (c8 v w)∧True))))) (.s 1 (v ≥ 0) (.w 1 [(2,.val (dB true)),(5,.val (dI .u64 w)),(6,.val (i6 (v / 2 ^ w.toNat)))] <| .e) (.w 1 [(2,.val (dB false))] <| .e)) Tryz.func68 rfl rfl rfl (by kernel_rfl) ?_
 refine tt ⟨fun hs0 => ?_,fun hs0 => ?_⟩
 · refine tt ⟨(vT hs0),tt ⟨⟨oK,D2 rfl om om⟩,⟨⟨(by omega),(wo h1 h2)⟩,tt ⟨?_,oK⟩⟩⟩⟩
   first | exact A8 (by omega) h1 h2 | (unfold c8; rw [decide_eq_false (by omega)]; rfl)
 · refine tt ⟨(vF hs0),tt ⟨?_,oK⟩⟩
   first | exact A8 (by omega) h1 h2 | (unfold c8; rw [decide_eq_false (by omega)]; rfl)
abbrev Ll (p : Pr) (s : Ps) : Ct := ⟨45,[(BL p),(.agg (lh s))],false,(dB (bQ p s))⟩
abbrev l7 (p : Pr) (s : Ps) : Lp (Nat) := iy [2,3,5] 2 (fun (i : Nat) => ⟨[(2,jm),(3,(.ptr 1 0 0 0)),(5,(i6 (i : Int)))],[(mJ p),(.var 112 (lh s))]⟩) (fun (i : Nat) => i ≤ s.regs.length∧∀ z,z < i → c8 (s.regs.getD z 0) (p.regs.getD z bI).w = true) (fun (i : Nat) => s.regs.length - i)
abbrev l8 (p : Pr) (s : Ps) : Lp (Nat) := iy [2,3,6] 2 (fun (j : Nat) => ⟨[(2,jm),(3,(.ptr 1 0 0 0)),(6,(i6 (j : Int)))],[(mJ p),(.var 112 (lh s))]⟩) (fun (j : Nat) => j ≤ s.mems.length∧∀ z,z < j → hY p s z = true) (fun (j : Nat) => s.mems.length - j)
abbrev l9 (p : Pr) (s : Ps) (j : Nat) : Lp (Nat) := iy [2,3,6,7] 15 (fun (k : Nat) => ⟨[(2,jm),(3,(.ptr 1 0 0 0)),(6,(i6 (j : Int))),(7,(i6 (k : Int)))],[(mJ p),(.var 112 (lh s)),.dead,.dead,.dead,.dead,.dead,.dead,.dead,.dead,.dead,.dead,.dead,.dead,.dead]⟩) (fun (k : Nat) => k ≤ (s.mems.getD j []).length∧∀ z,z < k → c8 ((s.mems.getD j []).getD z 0) (p.mems.getD j aI).w = true) (fun (k : Nat) => (s.mems.getD j []).length - k)
theorem Di (p : Pr) (s : Ps) (hp : fL p) : CC (Ll p s) := by
 have hl1 := hp.rl
 have hl2 := hp.ml
 refine ah.vc (V := TT 3 (CS ((s.regs.length : Int) = (p.regs.length : Int)) (TT 7 ((True∧(!decide ((s.regs.length : Int) = (p.regs.length : Int))) = false)∧TT 8 (CN ((s.mems.length : Int) = (p.mems.length : Int)) (TT 2 (false = (bQ p s)∧True)) (TT 1 (GO (l7 p s) 0 (∀ i,(l7 p s).inv i → TT 5 (CD ((i : Int) < (s.regs.length : Int)) (TT 3 (IX (i : Int) s.regs.length∧TT 4 (IX (i : Int) p.regs.length∧TT 2 (CC (J4 (s.regs.getD i 0) ((p.regs.getD i bI).w))∧TT 1 (CB (!(c8 (s.regs.getD i 0) ((p.regs.getD i bI).w))) (TT 2 (false = (bQ p s)∧True)) (TT 1 (W6 ((i + 1 : Nat) : Int)∧TT 1 (AG (l7 p s) i (i + 1))))))))) (TT 1 (GO (l8 p s) 0 (∀ j,(l8 p s).inv j → TT 5 (CD ((j : Int) < (s.mems.length : Int)) (TT 3 (IX (j : Int) s.mems.length∧TT 5 (IX (j : Int) p.mems.length∧TT 3 (CN ((((s.mems.getD j []).length : Nat) : Int) = ((p.mems.getD j aI).words)) (TT 2 (false = (bQ p s)∧True)) (TT 1 (GO (l9 p s j) 0 (∀ k,(l9 p s j).inv k → TT 4 (IX (j : Int) s.mems.length∧TT 3 (CD ((k : Int) < (((s.mems.getD j []).length : Nat) : Int)) (TT 3 (IX (j : Int) s.mems.length∧TT 2 (IX (k : Int) ((s.mems.getD j []).length)∧TT 4 (IX (j : Int) p.mems.length∧TT 2 (CC (J4 ((s.mems.getD j []).getD k 0) ((p.mems.getD j aI).w))∧TT 1 (CB (!(c8 ((s.mems.getD j []).getD k 0) ((p.mems.getD j aI).w))) (TT 2 (false = (bQ p s)∧True)) (TT 1 (W6 ((k + 1 : Nat) : Int)∧TT 1 (AG (l9 p s j) k (k + 1)))))))))) (TT 1 (W6 ((j + 1 : Nat) : Int)∧TT 1 (AG (l8 p s) j (j + 1))))))))))))) (TT 2 (true = (bQ p s)∧True))))))))))))) (TT 7 ((True∧(!decide ((s.regs.length : Int) = (p.regs.length : Int))) = true)∧TT 10 (false = (bQ p s)∧True))))) (.s 1 ((s.regs.length : Int) = (p.regs.length : Int)) (.w 1 [(7,.val (dB false))] <| .b 23 (.e) (.l (l7 p s) 0 (fun i => .b 28 (.w 6 [(11,(J4 (s.regs.getD i 0) ((p.regs.getD i bI).w)).O)] <| .b 43 (.e) (.w 5 [(1,.val (i6 ((i + 1 : Nat) : Int)))] <| .e)) (.l (l8 p s) 0 (fun j => .b 48 (.b 63 (.e) (.l (l9 p s j) 0 (fun k => .b 71 (.w 16 [(14,(J4 ((s.mems.getD j []).getD k 0) ((p.mems.getD j aI).w)).O)] <| .b 89 (.e) (.w 15 [(1,.val (i6 ((k + 1 : Nat) : Int)))] <| .e)) (.w 10 [(1,.val (i6 ((j + 1 : Nat) : Int)))] <| .e)))) (.e)))))) (.w 1 [(7,.val (dB true))] <| .e)) Tryz.func45 rfl rfl rfl (by kernel_rfl) ?_
 refine tt ⟨fun hs0 => ?_,fun hs0 => ?_⟩
 · refine tt ⟨(nF hs0),tt (cn (fun hc23 => ?_) (fun hc23 => ?_))⟩
   · refine tt ⟨?_,oK⟩
     first | exact (gJ (by omega)).symm | exact (gK (by omega)).symm | exact (gL (i := i) (by omega) (by simpa using hc43)).symm | exact (cU (i := j) (by omega) (lL (by omega))).symm | exact (cU (i := j) (by omega) (lM (j := k) (by omega) (by simpa using hc89))).symm | exact (gM (by omega) (by omega) (fun z hz => h3 z (by omega)) (fun z hz => h4 z (by omega))).symm
   · refine tt ⟨rfl,⟨by omega,fun z hz => by omega⟩,?_⟩
     intro i hinv
     obtain ⟨hi,h3⟩ := hinv
     refine tt (cd (fun hc28 => ?_) (fun hc28 => ?_))
     · have hrw := aN.1 (show am (p.regs.getD i bI).w = true from (hp.rw i (by omega)).1)
       refine tt ⟨ix,tt ⟨ix,tt ⟨(yD (s.regs.getD i 0) ((p.regs.getD i bI).w) om om),tt ⟨fun hc43 => ?_,fun hc43 => ?_⟩⟩⟩⟩
       · refine tt ⟨?_,oK⟩
         first | exact (gJ (by omega)).symm | exact (gK (by omega)).symm | exact (gL (i := i) (by omega) (by simpa using hc43)).symm | exact (cU (i := j) (by omega) (lL (by omega))).symm | exact (cU (i := j) (by omega) (lM (j := k) (by omega) (by simpa using hc89))).symm | exact (gM (by omega) (by omega) (fun z hz => h3 z (by omega)) (fun z hz => h4 z (by omega))).symm
       · refine tt ⟨w6,tt ⟨(i + 1),rfl,?_,(?_ : s.regs.length - (i + 1) < s.regs.length - i)⟩⟩
         · exact ⟨by omega,cK h3 (by simpa using hc43)⟩
         · omega
     · refine tt ⟨rfl,⟨by omega,fun z hz => by omega⟩,?_⟩
       intro j hinv
       obtain ⟨hj,h4⟩ := hinv
       refine tt (cd (fun hc48 => ?_) (fun hc48 => ?_))
       · refine tt ⟨ix,tt ⟨ix,tt (cn (fun hc63 => ?_) (fun hc63 => ?_))⟩⟩
         · refine tt ⟨?_,oK⟩
           first | exact (gJ (by omega)).symm | exact (gK (by omega)).symm | exact (gL (i := i) (by omega) (by simpa using hc43)).symm | exact (cU (i := j) (by omega) (lL (by omega))).symm | exact (cU (i := j) (by omega) (lM (j := k) (by omega) (by simpa using hc89))).symm | exact (gM (by omega) (by omega) (fun z hz => h3 z (by omega)) (fun z hz => h4 z (by omega))).symm
         · have hmw : 1 ≤ (p.mems.getD j aI).words∧(p.mems.getD j aI).words ≤ 4 := (hp.mw j (by omega)).2.1
           refine tt ⟨rfl,⟨by omega,fun z hz => by omega⟩,?_⟩
           intro k hinv
           obtain ⟨hk,h5⟩ := hinv
           refine tt ⟨ix,tt (cd (fun hc71 => ?_) (fun hc71 => ?_))⟩
           · have hmww := aN.1 (show am (p.mems.getD j aI).w = true from (hp.mw j (by omega)).1)
             refine tt ⟨ix,tt ⟨ix,tt ⟨ix,tt ⟨(yD ((s.mems.getD j []).getD k 0) ((p.mems.getD j aI).w) om om),tt ⟨fun hc89 => ?_,fun hc89 => ?_⟩⟩⟩⟩⟩
             · refine tt ⟨?_,oK⟩
               first | exact (gJ (by omega)).symm | exact (gK (by omega)).symm | exact (gL (i := i) (by omega) (by simpa using hc43)).symm | exact (cU (i := j) (by omega) (lL (by omega))).symm | exact (cU (i := j) (by omega) (lM (j := k) (by omega) (by simpa using hc89))).symm | exact (gM (by omega) (by omega) (fun z hz => h3 z (by omega)) (fun z hz => h4 z (by omega))).symm
             · refine tt ⟨w6,tt ⟨(k + 1),rfl,?_,(?_ : (s.mems.getD j []).length - (k + 1) < (s.mems.getD j []).length - k)⟩⟩
               · exact ⟨by omega,cK h5 (by simpa using hc89)⟩
               · omega
           · refine tt ⟨w6,tt ⟨(j + 1),rfl,?_,(?_ : s.mems.length - (j + 1) < s.mems.length - j)⟩⟩
             · exact ⟨by omega,cK h4 (GF (by omega) (fun z hz => h5 z (by omega)))⟩
             · omega
       · refine tt ⟨?_,oK⟩
         first | exact (gJ (by omega)).symm | exact (gK (by omega)).symm | exact (gL (i := i) (by omega) (by simpa using hc43)).symm | exact (cU (i := j) (by omega) (lL (by omega))).symm | exact (cU (i := j) (by omega) (lM (j := k) (by omega) (by simpa using hc89))).symm | exact (gM (by omega) (by omega) (fun z hz => h3 z (by omega)) (fun z hz => h4 z (by omega))).symm
 · refine tt ⟨(nT hs0),tt ⟨?_,oK⟩⟩
   first | exact (gJ (by omega)).symm | exact (gK (by omega)).symm | exact (gL (i := i) (by omega) (by simpa using hc43)).symm | exact (cU (i := j) (by omega) (lL (by omega))).symm | exact (cU (i := j) (by omega) (lM (j := k) (by omega) (by simpa using hc89))).symm | exact (gM (by omega) (by omega) (fun z hz => h3 z (by omega)) (fun z hz => h4 z (by omega))).symm
abbrev Lm (p : Pr) : Ct := ⟨73,[(BL p)],true,(.agg [(LI ((aP p).regs)),(dL 1 ac [] ((aP p).mems))])⟩
abbrev ma (p : Pr) : Lp (Nat) := iy [1,2,3,4] 4 (fun (i : Nat) => ⟨[(1,jm),(2,(.ptr 1 0 0 0)),(3,(.ptr 2 0 0 0)),(4,(i6 (i : Int)))],[(mJ p),(.var 112 [.nils,.nils]),(.var 112 [(.own 3),.nils]),(.arr 3 1 (ae .i64) 0 (ao (fun z => (p.regs.getD z bI).init) i))]⟩) (fun (i : Nat) => i ≤ p.regs.length) (fun (i : Nat) => p.regs.length - i)
abbrev mb (p : Pr) (i : Nat) : Lp (Nat) := iy [1,2,3,5] 5 (fun (j : Nat) => ⟨[(1,jm),(2,(.ptr 1 0 0 0)),(3,(.ptr 2 0 0 0)),(5,(i6 (j : Int)))],[(mJ p),(.var 112 [.nils,.nils]),(.var 112 [(.own 3),(.own 4)]),(.arr 3 1 (ae .i64) 0 (ao (fun z => (p.regs.getD z bI).init) i)),(.arr 28 1 ac [] (ao (fun z => List.replicate (p.mems.getD z aI).words.toNat (0 : Int)) j))]⟩) (fun (j : Nat) => j ≤ p.mems.length) (fun (j : Nat) => p.mems.length - j)
theorem Dj (p : Pr) (hp : fL p) : CC (Lm p) := by
 have hl1 := hp.rl
 have hl2 := hp.ml
 refine ah.vc (V := TT 6 (GO (ma p) 0 (∀ i,(ma p).inv i → TT 5 (CD ((i : Int) < (p.regs.length : Int)) (TT 5 (IX (i : Int) p.regs.length∧TT 2 (an [[(i6 ((p.regs.getD i bI).init))]] ([(p.regs.getD i bI).init].map (ae .i64))∧((ao (fun z => (p.regs.getD z bI).init) i).length + ([(p.regs.getD i bI).init].map (ae .i64)).length ≤ 137438953472∧(ao (fun z => (p.regs.getD z bI).init) i).map (ae .i64) ++ [(p.regs.getD i bI).init].map (ae .i64) = (ao (fun z => (p.regs.getD z bI).init) (i + 1)).map (ae .i64))∧TT 3 (W6 ((i + 1 : Nat) : Int)∧TT 1 (AG (ma p) i (i + 1)))))) (TT 1 (GO (mb p i) 0 (∀ j,(mb p i).inv j → TT 5 (CD ((j : Int) < (p.mems.length : Int)) (TT 5 (IX (j : Int) p.mems.length∧TT 2 ((((0 : Int) ≤ (p.mems.getD j aI).words∧(p.mems.getD j aI).words ≤ (p.mems.getD j aI).words∧(p.mems.getD j aI).words ≤ 137438953472)∧(List.replicate (p.mems.getD j aI).words.toNat (0 : Int)).length = ((p.mems.getD j aI).words).toNat∧∀ x ∈ (List.replicate (p.mems.getD j aI).words.toNat (0 : Int)),cO [(i6 0)] ((ae .i64) x))∧an [[(LI (List.replicate (p.mems.getD j aI).words.toNat (0 : Int)))]] ([List.replicate (p.mems.getD j aI).words.toNat (0 : Int)].map ac)∧((ao (fun z => List.replicate (p.mems.getD z aI).words.toNat (0 : Int)) j).length + ([List.replicate (p.mems.getD j aI).words.toNat (0 : Int)].map ac).length ≤ 137438953472∧(ao (fun z => List.replicate (p.mems.getD z aI).words.toNat (0 : Int)) j).map ac ++ [List.replicate (p.mems.getD j aI).words.toNat (0 : Int)].map ac = (ao (fun z => List.replicate (p.mems.getD z aI).words.toNat (0 : Int)) (j + 1)).map ac)∧TT 3 (W6 ((j + 1 : Nat) : Int)∧TT 1 (AG (mb p i) j (j + 1)))))) (TT 3 ((ao (fun z => (p.regs.getD z bI).init) i).map (ae .i64) = ((aP p).regs).map (ae .i64)∧(ao (fun z => List.replicate (p.mems.getD z aI).words.toNat (0 : Int)) j).map ac = ((aP p).mems).map ac∧True)))))))))) (.g 2 2 0 3 1 (ae .i64) 0 <| .l (ma p) 0 (fun i => .b 11 (.w 5 [(8,.box 3 1 (ae .i64) 0 [(p.regs.getD i bI).init]),(9,.box 3 1 (ae .i64) 0 (ao (fun z => (p.regs.getD z bI).init) (i + 1)))] <| .w 4 [(1,.val (i6 ((i + 1 : Nat) : Int)))] <| .e) (.g 6 2 1 28 1 ac [] <| .l (mb p i) 0 (fun j => .b 29 (.w 9 [(8,.frz 3 1 (ae .i64) 0 (List.replicate (p.mems.getD j aI).words.toNat (0 : Int))),(9,.box 28 1 ac [] [List.replicate (p.mems.getD j aI).words.toNat (0 : Int)]),(10,.box 28 1 ac [] (ao (fun z => List.replicate (p.mems.getD z aI).words.toNat (0 : Int)) (j + 1)))] <| .w 8 [(1,.val (i6 ((j + 1 : Nat) : Int)))] <| .e) (.e))))) Tryz.func73 rfl rfl rfl (by kernel_rfl) ?_
 refine tt ⟨rfl,(by omega),?_⟩
 intro i hinv
 have hi := hinv
 refine tt (cd (fun hc11 => ?_) (fun hc11 => ?_))
 · refine tt ⟨ix,tt ⟨⟨⟨rfl,oK⟩,oK⟩,⟨(gw (f := fun z => (p.regs.getD z bI).init) (by omega)),tt ⟨w6,tt ⟨(i + 1),rfl,(?_ : (i + 1) ≤ p.regs.length),(?_ : p.regs.length - (i + 1) < p.regs.length - i)⟩⟩⟩⟩⟩
   · omega
   · omega
 · refine tt ⟨rfl,(by omega),?_⟩
   intro j hinv
   have hj := hinv
   refine tt (cd (fun hc29 => ?_) (fun hc29 => ?_))
   · have hmw : 1 ≤ (p.mems.getD j aI).words∧(p.mems.getD j aI).words ≤ 4 := (hp.mw j (by omega)).2.1
     refine tt ⟨ix,tt ⟨⟨by omega,List.length_replicate,fun x hx => by rw [List.eq_of_mem_replicate hx]; exact ⟨rfl,oK⟩⟩,⟨⟨⟨rfl,oK⟩,oK⟩,⟨(gw (f := fun z => List.replicate (p.mems.getD z aI).words.toNat (0 : Int)) (by omega)),tt ⟨w6,tt ⟨(j + 1),rfl,(?_ : (j + 1) ≤ p.mems.length),(?_ : p.mems.length - (j + 1) < p.mems.length - j)⟩⟩⟩⟩⟩⟩
     · omega
     · omega
   · refine tt ⟨(congrArg _ (?_ : (ao (fun z => (p.regs.getD z bI).init) i) = ((aP p).regs))),(congrArg _ (?_ : (ao (fun z => List.replicate (p.mems.getD z aI).words.toNat (0 : Int)) j) = ((aP p).mems))),oK⟩
     · rw [oP,show i = p.regs.length by omega]
     · rw [oP,show j = p.mems.length by omega]
abbrev li (p : Pr) (s : Ps) (data : List Int) (n : Nat) (e : Ex) : Ct := ⟨107,[(FH p s data),(.agg [(i6 e.op),(dS e.name),(i6 e.k.n),(dS e.k.p),(i6 e.w.n),(dS e.w.p),(dL 7 (eA n) dE e.args)])],false,(.agg [(i6 ((a5 p s data e).1)),(i6 ((a5 p s data e).2))])⟩
abbrev rY (p : Pr) (s : Ps) (data : List Int) (n : Nat) (e : Ex) : Lp (Nat) := iy [2,3,4,7,8,9] 5 (fun (i : Nat) => ⟨[(2,jm),(3,(.ptr 1 0 0 0)),(4,(.ptr 2 0 0 0)),(7,(.own 3)),(8,(.own 4)),(9,(i6 (i : Int)))],[(FG p s data),(.var 74 [(i6 e.op),(dS e.name),(i6 e.k.n),(dS e.k.p),(i6 e.w.n),(dS e.w.p),(dL 7 (eA (n + 1)) dE e.args)]),(.var 210 [(i6 0),(i6 0)]),(.arr 3 1 (ae .i64) 0 (ey p s data (e.args.take i))),(.arr 3 1 (ae .i64) 0 (c6 p s data (e.args.take i)))]⟩) (fun (i : Nat) => i ≤ e.args.length) (fun (i : Nat) => e.args.length - i)
theorem BN (p : Pr) (s : Ps) (data : List Int) (n : Nat) (e : Ex) (c : Sc) (v : Int) (ho : qe c p s data) (ht : eD c e = some v) (hmw : ∀ i,i < p.mems.length → ((s.mems.getD i []).length : Int) = (p.mems.getD i aI).words) (ih : ∀ a ∈ e.args,CC (li p s data n a)) : CC (li p s data (n + 1) e) := by
 have hal := EB ht
 refine ah.vc (V := TT 7 (CD (e.op = 16) (TT 6 (IX e.k.n s.regs.length∧TT 7 (IX e.k.n p.regs.length∧TT 5 ((((s.regs.getD e.k.n.toNat 0) = ((a5 p s data e).1)∧((p.regs.getD e.k.n.toNat bI).w) = ((a5 p s data e).2)∧True))∧((True∧True∧True)))))) (TT 2 (CD (e.op = 17) (TT 6 (IX e.k.n p.mems.length∧TT 6 (IX 0 e.args.length∧TT 1 (CC (li p s data n (e.args.getD 0 dE))∧TT 8 (IX e.k.n s.mems.length∧TT 5 ((((p.mems.getD e.k.n.toNat aI).words) ≠ 0∧(Int.tmod ((a5 p s data (e.args.getD 0 dE)).1) ((p.mems.getD e.k.n.toNat aI).words)) = (Int.tmod (a5 p s data (e.args.getD 0 dE)).1 ((s.mems.getD e.k.n.toNat []).length : Int)))∧IX (Int.tmod (a5 p s data (e.args.getD 0 dE)).1 ((s.mems.getD e.k.n.toNat []).length : Int)) ((s.mems.getD e.k.n.toNat []).length)∧TT 6 (((((s.mems.getD e.k.n.toNat []).getD ((Int.tmod (a5 p s data (e.args.getD 0 dE)).1 ((s.mems.getD e.k.n.toNat []).length : Int)).toNat) 0) = ((a5 p s data e).1)∧((p.mems.getD e.k.n.toNat aI).w) = ((a5 p s data e).2)∧True))∧((True∧True∧True))))))))) (TT 2 (CD (e.op = 18) (TT 5 (IX e.k.n data.length∧TT 7 (IX e.k.n p.takes.length∧TT 5 ((((data.getD e.k.n.toNat 0) = ((a5 p s data e).1)∧((p.takes.getD e.k.n.toNat bK).w) = ((a5 p s data e).2)∧True))∧((True∧True∧True)))))) (an [] ((ey p s data (e.args.take 0)).map (ae .i64))∧an [] ((c6 p s data (e.args.take 0)).map (ae .i64))∧TT 3 (GO (rY p s data n e) 0 (∀ i,(rY p s data n e).inv i → TT 5 (CD ((i : Int) < (e.args.length : Int)) (TT 4 (IX (i : Int) e.args.length∧TT 1 (CC (li p s data n (e.args.getD i dE))∧TT 5 (an [[(i6 ((a5 p s data (e.args.getD i dE)).1))]] ([(a5 p s data (e.args.getD i dE)).1].map (ae .i64))∧((ey p s data (e.args.take i)).length + ([(a5 p s data (e.args.getD i dE)).1].map (ae .i64)).length ≤ 137438953472∧(ey p s data (e.args.take i)).map (ae .i64) ++ [(a5 p s data (e.args.getD i dE)).1].map (ae .i64) = (ey p s data (e.args.take (i + 1))).map (ae .i64))∧TT 4 (an [[(i6 ((a5 p s data (e.args.getD i dE)).2))]] ([(a5 p s data (e.args.getD i dE)).2].map (ae .i64))∧((c6 p s data (e.args.take i)).length + ([(a5 p s data (e.args.getD i dE)).2].map (ae .i64)).length ≤ 137438953472∧(c6 p s data (e.args.take i)).map (ae .i64) ++ [(a5 p s data (e.args.getD i dE)).2].map (ae .i64) = (c6 p s data (e.args.take (i + 1))).map (ae .i64))∧TT 2 (W6 ((i + 1 : Nat) : Int)∧TT 1 (AG (rY p s data n e) i (i + 1)))))))) (TT 10 (CK (FE e.op (c6 p s data (e.args.take i)) e.k.n e.w.n)∧TT 12 (an [[(i6 e.k.n)],[(i6 e.w.n)]] ([e.k.n,e.w.n].map (ae .i64))∧TT 1 (CK (IM e.op (c6 p s data (e.args.take i)) (ey p s data (e.args.take i)) [e.k.n,e.w.n])∧TT 9 ((((cy e.op (c6 p s data (e.args.take i)) (ey p s data (e.args.take i)) [e.k.n,e.w.n]) = ((a5 p s data e).1)∧(bP e.op (c6 p s data (e.args.take i)) e.k.n e.w.n) = ((a5 p s data e).2)∧True))∧((True∧True∧True))))))))))))))))) (.b 15 (.e) (.b 35 (.w 6 [(5,(li p s data n (e.args.getD 0 dE)).O)] <| .w 7 [(12,.val (i6 (Int.tmod (a5 p s data (e.args.getD 0 dE)).1 ((s.mems.getD e.k.n.toNat []).length : Int))))] <| .e) (.b 69 (.e) (.w 10 [(0,.box 3 1 (ae .i64) 0 (ey p s data (e.args.take 0))),(1,.box 3 1 (ae .i64) 0 (c6 p s data (e.args.take 0)))] <| .l (rY p s data n e) 0 (fun i => .b 94 (.w 14 [(6,(li p s data n (e.args.getD i dE)).O)] <| .w 15 [(3,.box 3 1 (ae .i64) 0 [(a5 p s data (e.args.getD i dE)).1]),(4,.box 3 1 (ae .i64) 0 (ey p s data (e.args.take (i + 1))))] <| .w 16 [(3,.box 3 1 (ae .i64) 0 [(a5 p s data (e.args.getD i dE)).2]),(4,.box 3 1 (ae .i64) 0 (c6 p s data (e.args.take (i + 1))))] <| .w 13 [(1,.val (i6 ((i + 1 : Nat) : Int)))] <| .e) (.w 17 [(10,(FE e.op (c6 p s data (e.args.take i)) e.k.n e.w.n).O')] <| .w 18 [(10,.box 3 1 (ae .i64) 0 [e.k.n,e.w.n]),(12,(IM e.op (c6 p s data (e.args.take i)) (ey p s data (e.args.take i)) [e.k.n,e.w.n]).O')] <| .e)))))) Tryz.func107 rfl rfl rfl (by kernel_rfl) ?_
 refine tt (cd (fun hc15 => ?_) (fun hc15 => ?_))
 · obtain ⟨h1,h2,h3⟩ := EC ho ht hc15
   refine tt ⟨ix,tt ⟨ix,tt ⟨⟨?_,?_,oK⟩,⟨oK,oK,oK⟩⟩⟩⟩
   all_goals (first | exact (ex hc15).1.symm | exact (ex hc15).2.symm | exact (dc hc69).1.symm | exact (dc hc69).2.symm | exact (de hc35 hlen).1.symm | exact (de hc35 hlen).2.symm | (rw [hie,List.take_length]; exact (gb hc15 hc69 hc35).1.symm) | (rw [hie,List.take_length]; exact (gb hc15 hc69 hc35).2.symm))
 · refine tt (cd (fun hc35 => ?_) (fun hc35 => ?_))
   · obtain ⟨h1,h2,h3,hlen,h4,h5,h6⟩ := AY ho ht hc35
     have hpw : (p.mems.getD e.k.n.toNat aI).words = ((s.mems.getD e.k.n.toNat []).length : Int) := (hmw _ (by omega)).symm
     have hz : (s.mems.getD e.k.n.toNat []).length ≠ 0 := by omega
     refine tt ⟨ix,tt ⟨ix,tt ⟨(ih _ (gG (by omega))),tt ⟨ix,tt ⟨⟨(by omega),(by rw [hpw])⟩,⟨ix,tt ⟨⟨?_,?_,oK⟩,⟨oK,oK,oK⟩⟩⟩⟩⟩⟩⟩⟩
     all_goals (first | exact (ex hc15).1.symm | exact (ex hc15).2.symm | exact (dc hc69).1.symm | exact (dc hc69).2.symm | exact (de hc35 hlen).1.symm | exact (de hc35 hlen).2.symm | (rw [hie,List.take_length]; exact (gb hc15 hc69 hc35).1.symm) | (rw [hie,List.take_length]; exact (gb hc15 hc69 hc35).2.symm))
   · refine tt (cd (fun hc69 => ?_) (fun hc69 => ?_))
     · obtain ⟨h1,h2,h3⟩ := AX ho ht hc69
       refine tt ⟨ix,tt ⟨ix,tt ⟨⟨?_,?_,oK⟩,⟨oK,oK,oK⟩⟩⟩⟩
       all_goals (first | exact (ex hc15).1.symm | exact (ex hc15).2.symm | exact (dc hc69).1.symm | exact (dc hc69).2.symm | exact (de hc35 hlen).1.symm | exact (de hc35 hlen).2.symm | (rw [hie,List.take_length]; exact (gb hc15 hc69 hc35).1.symm) | (rw [hie,List.take_length]; exact (gb hc15 hc69 hc35).2.symm))
     · refine ⟨oK,⟨oK,tt ⟨rfl,(by omega),?_⟩⟩⟩
       intro i hinv
       have hi := hinv
       refine tt (cd (fun hc94 => ?_) (fun hc94 => ?_))
       · refine tt ⟨ix,tt ⟨(ih _ (gG (by omega))),tt ⟨⟨⟨rfl,oK⟩,oK⟩,⟨⟨by simp only [List.length_map,List.length_cons,List.length_nil]; rw [sZ,List.length_take]; omega,by rw [ve (by omega),List.map_append]⟩,tt ⟨⟨⟨rfl,oK⟩,oK⟩,⟨⟨by simp only [List.length_map,List.length_cons,List.length_nil]; rw [oI,List.length_take]; omega,by rw [vf (by omega),List.map_append]⟩,tt ⟨w6,tt ⟨(i + 1),rfl,(?_ : (i + 1) ≤ e.args.length),(?_ : e.args.length - (i + 1) < e.args.length - i)⟩⟩⟩⟩⟩⟩⟩⟩
         · omega
         · omega
       · have hie : i = e.args.length := by omega
         have hev := ES ho ht hc15 hc35 hc69
         have hev1 : fJ e.op (c6 p s data (e.args.take i)) e.k.n e.w.n = true := by rw [hie,List.take_length]; exact hev.1
         have hev2 : x4 (c6 p s data (e.args.take i)) (ey p s data (e.args.take i)) = true := by rw [hie,List.take_length]; exact hev.2
         refine tt ⟨⟨cZ _ rfl,(tN e.op (c6 p s data (e.args.take i)) e.k.n e.w.n hev1)⟩,tt ⟨⟨⟨rfl,oK⟩,⟨rfl,oK⟩,oK⟩,tt ⟨⟨cZ _ rfl,(Aa e.op (c6 p s data (e.args.take i)) (ey p s data (e.args.take i)) [e.k.n,e.w.n] hev1 (by rw [sZ,oI]) hev2 rfl)⟩,tt ⟨⟨?_,?_,oK⟩,⟨oK,oK,oK⟩⟩⟩⟩⟩
         all_goals (first | exact (ex hc15).1.symm | exact (ex hc15).2.symm | exact (dc hc69).1.symm | exact (dc hc69).2.symm | exact (de hc35 hlen).1.symm | exact (de hc35 hlen).2.symm | (rw [hie,List.take_length]; exact (gb hc15 hc69 hc35).1.symm) | (rw [hie,List.take_length]; exact (gb hc15 hc69 hc35).2.symm))
theorem jn {c : Sc} {p : Pr} {s : Ps} {data : List Int} (ho : qe c p s data) (hmw : ∀ i,i < p.mems.length → ((s.mems.getD i []).length : Int) = (p.mems.getD i aI).words) : ∀ (n : Nat) (e : Ex) (v : Int),eD c e = some v → fc e ≤ n + 1 → CC (li p s data n e)
  | 0,e,v,ht,hd => by
    have ha : e.args = [] := by
      cases hl : e.args with
      | nil => rfl
      | cons a r =>
        have := rK (e := e) (a := a) (by rw [hl]; simp)
        cases a with | mk op name k w args => rw [fc] at this; omega
    have h := BN p s data 0 e c v ho ht hmw (fun a h => by rw [ha] at h; cases h)
    refine ah.recast ?_ h
    refine ⟨sR _ rfl,⟨rfl,rfl,rfl,rfl,rfl,rfl,?_,oK⟩,oK⟩
    show e.args.map (eA 0) = e.args.map (eA 1)
    rw [ha]; rfl
  | n + 1,e,v,ht,hd => BN p s data n e c v ho ht hmw (fun a h => by
    obtain ⟨w,hw⟩ := EA ht h
    exact jn ho hmw n a w hw (by have := rK h; omega))
abbrev nA (p : Pr) (s : Ps) (data : List Int) (e : Ex) : Ct := ⟨105,[(FH p s data),(.agg [(i6 e.op),(dS e.name),(i6 e.k.n),(dS e.k.p),(i6 e.w.n),(dS e.w.p),(dL 7 (eA 2) dE e.args)])],false,(dB (dH p s data e))⟩
theorem tO (p : Pr) (s : Ps) (data : List Int) (e : Ex) {c : Sc} {v : Int} (ho : qe c p s data) (hmw : ∀ i,i < p.mems.length → ((s.mems.getD i []).length : Int) = (p.mems.getD i aI).words) (ht : eD c e = some v) (hd : fc e ≤ 3) : CC (nA p s data e) := by
 refine ah.vc (V := TT 5 (CC (li p s data 2 e)∧TT 4 ((((a5 p s data e).1) == 1) = (dH p s data e)∧True))) (.w 1 [(2,(li p s data 2 e).O)] <| .e) Tryz.func105 rfl rfl rfl (by kernel_rfl) ?_
 refine tt ⟨(jn ho hmw 2 e _ ht hd),tt ⟨?_,oK⟩⟩
 rfl
abbrev IP (p : Pr) (s : Ps) (hs : List Hd) (rs : List Bool) : Ct := ⟨104,[(BL p),(.agg (lh s)),(.agg [(dL 2 bO aR hs),(LB rs)])],true,(.agg [(dS p.name),(dS p.clock),(dL 13 iE bI p.regs),(dL 27 pD aI p.mems),(dL 9 i7 bK p.takes),(dL 16 gF bn p.puts),(LI s.regs),(dL 1 ac [] s.mems),(LI (bM p s hs))])⟩
abbrev fv (p : Pr) (s : Ps) (hs : List Hd) (rs : List Bool) : Lp (Nat × List Int) := uZ [3,5,6,7,8,9] 20 (fun (i : Nat) (dat : List Int) => ⟨[(3,jm),(5,(.ptr 2 0 0 0)),(6,(.ptr 3 0 0 0)),(7,(.ptr 11 0 0 0)),(8,(.ptr 19 0 0 0)),(9,(i6 (i : Int)))],[(mJ p),(.var 112 (lh s)),(.var 196 [(dL 2 bO aR hs),(LB rs)]),(.var 205 [(dS e0),(dS e0),.nils,.nils,.nils,.nils,.nils,.nils,.nils]),.dead,.dead,.dead,.dead,.dead,.dead,.dead,(.var 205 [(dS p.name),(dS p.clock),(dL 13 iE bI p.regs),(dL 27 pD aI p.mems),(dL 9 i7 bK p.takes),(dL 16 gF bn p.puts),(LI s.regs),(dL 1 ac [] s.mems),(LI (hX p))]),.dead,.dead,.dead,.dead,.dead,(.arr 3 1 (ae .i64) 0 dat),.dead,(.var 205 [(dS p.name),(dS p.clock),(dL 13 iE bI p.regs),(dL 27 pD aI p.mems),(dL 9 i7 bK p.takes),(dL 16 gF bn p.puts),(LI s.regs),(dL 1 ac [] s.mems),(.own 17)])]⟩) (fun (i : Nat) (dat : List Int) => i ≤ p.takes.length∧dat = cN (ku p s hs) (hX p) i) (fun (i : Nat) (dat : List Int) => p.takes.length - i)
theorem Ab (p : Pr) (s : Ps) (hs : List Hd) (rs : List Bool) (hp : fL p) (hso : nb p s) (hh : yd p hs) : CC (IP p s hs rs) := by
 have ht1 := hp.tl
 have ht2 := hp.pl
 have hhl := hh.l
 have hmw := hso.mn
 have ho := fM hp hso (HG hp)
 refine ah.vc (V := TT 9 ((((0 : Int) ≤ (p.takes.length : Int)∧(p.takes.length : Int) ≤ (p.takes.length : Int)∧(p.takes.length : Int) ≤ 137438953472)∧(hX p).length = p.takes.length∧∀ x ∈ (hX p),cO [(i6 0)] ((ae .i64) x))∧TT 8 ((((0 : Int) ≤ (p.takes.length : Int)∧(p.takes.length : Int) ≤ (p.takes.length : Int)∧(p.takes.length : Int) ≤ 137438953472)∧(hX p).length = p.takes.length∧∀ x ∈ (hX p),cO [(i6 0)] ((ae .i64) x))∧TT 4 (GO (fv p s hs rs) (0,hX p) (∀ i dat,(fv p s hs rs).inv (i,dat) → TT 5 (CD ((i : Int) < (p.takes.length : Int)) (CS ((dH p s (hX p) ((p.takes.getD i bK).when)) = true) (TT 4 (IX (i : Int) p.takes.length∧TT 2 (CC (nA p s (hX p) ((p.takes.getD i bK).when))∧(True∧(dH p s (hX p) ((p.takes.getD i bK).when)) = true)∧TT 3 (IX (i : Int) hs.length∧TT 3 (CB ((hs.getD i aR).has) (TT 6 (IX (i : Int) hs.length∧TT 2 (IX (i : Int) dat.length∧(i < dat.length∧(dat.map (ae .i64)).set i (((ae .i64) (dat.getD i 0)).take 0 ++ [(.int .i64 ((hs.getD i aR).v))] ++ ((ae .i64) (dat.getD i 0)).drop (0 + 1)) = (dat.set i ((hs.getD i aR).v)).map (ae .i64))∧TT 1 (W6 ((i + 1 : Nat) : Int)∧TT 1 (AG (fv p s hs rs) (i,dat) (i + 1,dat.set i ((hs.getD i aR).v))))))) (TT 1 (W6 ((i + 1 : Nat) : Int)∧TT 1 (AG (fv p s hs rs) (i,dat) (i + 1,dat))))))))) (TT 4 (IX (i : Int) p.takes.length∧TT 2 (CC (nA p s (hX p) ((p.takes.getD i bK).when))∧(True∧(dH p s (hX p) ((p.takes.getD i bK).when)) = false)∧TT 2 (W6 ((i + 1 : Nat) : Int)∧TT 1 (AG (fv p s hs rs) (i,dat) (i + 1,dat))))))) (TT 3 (p.name = p.name∧p.clock = p.clock∧p.regs.map iE = p.regs.map iE∧p.mems.map pD = p.mems.map pD∧p.takes.map i7 = p.takes.map i7∧p.puts.map gF = p.puts.map gF∧s.regs.map (ae .i64) = s.regs.map (ae .i64)∧s.mems.map ac = s.mems.map ac∧dat.map (ae .i64) = (bM p s hs).map (ae .i64)∧True)))))))) (.w 1 [(5,.frz 3 1 (ae .i64) 0 (hX p))] <| .w 2 [(5,.box 3 1 (ae .i64) 0 (hX p))] <| .l (fv p s hs rs) (0,hX p) (fun ⟨i,dat⟩ => .b 28 (.s 6 ((dH p s (hX p) ((p.takes.getD i bK).when)) = true) (.w 6 [(7,(nA p s (hX p) ((p.takes.getD i bK).when)).O),(8,.val (dB true))] <| .b 46 (.w 7 [(10,.box 3 1 (ae .i64) 0 (dat.set i ((hs.getD i aR).v)))] <| .w 5 [(1,.val (i6 ((i + 1 : Nat) : Int)))] <| .e) (.w 5 [(1,.val (i6 ((i + 1 : Nat) : Int)))] <| .e)) (.w 6 [(7,(nA p s (hX p) ((p.takes.getD i bK).when)).O),(8,.val (dB false))] <| .w 5 [(1,.val (i6 ((i + 1 : Nat) : Int)))] <| .e)) (.e))) Tryz.func104 rfl rfl rfl (by kernel_rfl) ?_
 refine tt ⟨⟨by omega,d6,fun x hx => by rw [List.eq_of_mem_replicate hx]; exact ⟨rfl,oK⟩⟩,tt ⟨⟨by omega,d6,fun x hx => by rw [List.eq_of_mem_replicate hx]; exact ⟨rfl,oK⟩⟩,tt ⟨rfl,⟨by omega,rfl⟩,?_⟩⟩⟩
 intro i dat hinv
 obtain ⟨hi,hdat⟩ := hinv
 have hdl : dat.length = p.takes.length := by rw [hdat,d5 (by rw [d6]; exact hi),d6]
 refine tt (cd (fun hc28 => ?_) (fun hc28 => ?_))
 · have hwh := rM hp (show i < p.takes.length by omega)
   refine ⟨fun hs0 => ?_,fun hs0 => ?_⟩
   · refine tt ⟨ix,tt ⟨(tO p s (hX p) ((p.takes.getD i bK).when) ho hmw hwh.1 hwh.2),⟨(bT hs0),tt ⟨ix,tt ⟨fun hc46 => ?_,fun hc46 => ?_⟩⟩⟩⟩⟩
     · refine tt ⟨ix,tt ⟨ix,⟨⟨om,by simp only [List.map_set]; rfl⟩,tt ⟨w6,tt ⟨(i + 1,dat.set i ((hs.getD i aR).v)),rfl,?_,(?_ : p.takes.length - (i + 1) < p.takes.length - i)⟩⟩⟩⟩⟩
       · exact ⟨by omega,by rw [hdat]; exact b5 (by rw [d6]; omega) (GG hs0 hc46)⟩
       · omega
     · refine tt ⟨w6,tt ⟨(i + 1,dat),rfl,?_,(?_ : p.takes.length - (i + 1) < p.takes.length - i)⟩⟩
       · exact ⟨by omega,by rw [hdat]; exact b8 (by rw [d6]; omega) (by first | exact A9 (by assumption) | exact Ba (by rw [hc46]; simp))⟩
       · omega
   · refine tt ⟨ix,tt ⟨(tO p s (hX p) ((p.takes.getD i bK).when) ho hmw hwh.1 hwh.2),⟨(bF hs0),tt ⟨w6,tt ⟨(i + 1,dat),rfl,?_,(?_ : p.takes.length - (i + 1) < p.takes.length - i)⟩⟩⟩⟩⟩
     · exact ⟨by omega,by rw [hdat]; exact b8 (by rw [d6]; omega) (by first | exact A9 (by assumption) | exact Ba (by rw [hc46]; simp))⟩
     · omega
 · refine tt ⟨rfl,rfl,rfl,rfl,rfl,rfl,rfl,rfl,(congrArg _ (?_ : dat = (bM p s hs))),oK⟩
   rw [hdat,show i = p.takes.length by omega,dj (by rw [d6]; exact Nat.le_refl _)]; rfl
abbrev IQ (p : Pr) (s : Ps) (data : List Int) : Ct := ⟨106,[(FH p s data)],true,(.agg [(LI ((cg p s data).regs)),(dL 1 ac [] ((cg p s data).mems))])⟩
abbrev pn (p : Pr) (s : Ps) (data : List Int) : Lp (Nat) := iy [1,2,3,4] 4 (fun (i : Nat) => ⟨[(1,jm),(2,(.ptr 1 0 0 0)),(3,(.ptr 2 0 0 0)),(4,(i6 (i : Int)))],[(FG p s data),(.var 112 [.nils,.nils]),(.var 112 [(.own 3),.nils]),(.arr 3 1 (ae .i64) 0 (ao (fun z => (a5 p s data (p.regs.getD z bI).next).1) i))]⟩) (fun (i : Nat) => i ≤ p.regs.length) (fun (i : Nat) => p.regs.length - i)
abbrev lj (p : Pr) (s : Ps) (data : List Int) (i : Nat) : Lp (Nat) := iy [1,2,3,5] 5 (fun (j : Nat) => ⟨[(1,jm),(2,(.ptr 1 0 0 0)),(3,(.ptr 2 0 0 0)),(5,(i6 (j : Int)))],[(FG p s data),(.var 112 [.nils,.nils]),(.var 112 [(.own 3),(.own 4)]),(.arr 3 1 (ae .i64) 0 (ao (fun z => (a5 p s data (p.regs.getD z bI).next).1) i)),(.arr 28 1 ac [] (ao (pE p s data) j))]⟩) (fun (j : Nat) => j ≤ p.mems.length) (fun (j : Nat) => p.mems.length - j)
theorem FI (p : Pr) (s : Ps) (data : List Int) (hp : fL p) (hso : nb p s) (hda : yc p data) : CC (IQ p s data) := by
 have hl1 := hp.rl
 have hl2 := hp.ml
 have hmw := hso.mn
 have ho := fM hp hso hda
 have hsl := hso.ml
 refine ah.vc (V := TT 6 (GO (pn p s data) 0 (∀ i,(pn p s data).inv i → TT 6 (CD ((i : Int) < (p.regs.length : Int)) (TT 7 (IX (i : Int) p.regs.length∧TT 2 (CC (li p s data 2 ((p.regs.getD i bI).next))∧TT 1 (an [[(i6 ((a5 p s data ((p.regs.getD i bI).next)).1))]] ([(a5 p s data ((p.regs.getD i bI).next)).1].map (ae .i64))∧((ao (fun z => (a5 p s data (p.regs.getD z bI).next).1) i).length + ([(a5 p s data ((p.regs.getD i bI).next)).1].map (ae .i64)).length ≤ 137438953472∧(ao (fun z => (a5 p s data (p.regs.getD z bI).next).1) i).map (ae .i64) ++ [(a5 p s data ((p.regs.getD i bI).next)).1].map (ae .i64) = (ao (fun z => (a5 p s data (p.regs.getD z bI).next).1) (i + 1)).map (ae .i64))∧TT 3 (W6 ((i + 1 : Nat) : Int)∧TT 1 (AG (pn p s data) i (i + 1))))))) (TT 1 (GO (lj p s data i) 0 (∀ j,(lj p s data i).inv j → TT 6 (CD ((j : Int) < (p.mems.length : Int)) (TT 4 (IX (j : Int) p.mems.length∧TT 3 (an [] (([] : List Int).map (ae .i64))∧TT 4 (IX (j : Int) s.mems.length∧TT 1 ((([] : List Int).length + ((s.mems.getD j []).map (ae .i64)).length ≤ 137438953472∧([] : List Int).map (ae .i64) ++ (s.mems.getD j []).map (ae .i64) = (s.mems.getD j []).map (ae .i64))∧TT 4 (CC (nA p s data ((p.mems.getD j aI).enable))∧CB (dH p s data ((p.mems.getD j aI).enable)) (TT 4 (CC (li p s data 2 ((p.mems.getD j aI).addr))∧TT 3 (((p.mems.getD j aI).words) ≠ 0∧TT 3 (CC (li p s data 2 ((p.mems.getD j aI).data))∧TT 1 (IX (Int.tmod ((a5 p s data ((p.mems.getD j aI).addr)).1) ((p.mems.getD j aI).words)) ((s.mems.getD j []).length)∧((Int.tmod ((a5 p s data ((p.mems.getD j aI).addr)).1) ((p.mems.getD j aI).words)).toNat < (s.mems.getD j []).length∧((s.mems.getD j []).map (ae .i64)).set ((Int.tmod ((a5 p s data ((p.mems.getD j aI).addr)).1) ((p.mems.getD j aI).words)).toNat) (((ae .i64) ((s.mems.getD j []).getD ((Int.tmod ((a5 p s data ((p.mems.getD j aI).addr)).1) ((p.mems.getD j aI).words)).toNat) 0)).take 0 ++ [(.int .i64 ((a5 p s data ((p.mems.getD j aI).data)).1))] ++ ((ae .i64) ((s.mems.getD j []).getD ((Int.tmod ((a5 p s data ((p.mems.getD j aI).addr)).1) ((p.mems.getD j aI).words)).toNat) 0)).drop (0 + 1)) = ((s.mems.getD j []).set ((Int.tmod ((a5 p s data ((p.mems.getD j aI).addr)).1) ((p.mems.getD j aI).words)).toNat) ((a5 p s data ((p.mems.getD j aI).data)).1)).map (ae .i64))∧TT 3 (an [[(LI ((s.mems.getD j []).set ((Int.tmod ((a5 p s data ((p.mems.getD j aI).addr)).1) ((p.mems.getD j aI).words)).toNat) ((a5 p s data ((p.mems.getD j aI).data)).1)))]] ([(s.mems.getD j []).set ((Int.tmod ((a5 p s data ((p.mems.getD j aI).addr)).1) ((p.mems.getD j aI).words)).toNat) ((a5 p s data ((p.mems.getD j aI).data)).1)].map ac)∧((ao (pE p s data) j).length + ([(s.mems.getD j []).set ((Int.tmod ((a5 p s data ((p.mems.getD j aI).addr)).1) ((p.mems.getD j aI).words)).toNat) ((a5 p s data ((p.mems.getD j aI).data)).1)].map ac).length ≤ 137438953472∧(ao (pE p s data) j).map ac ++ [(s.mems.getD j []).set ((Int.tmod ((a5 p s data ((p.mems.getD j aI).addr)).1) ((p.mems.getD j aI).words)).toNat) ((a5 p s data ((p.mems.getD j aI).data)).1)].map ac = (ao (pE p s data) (j + 1)).map ac)∧TT 3 (W6 ((j + 1 : Nat) : Int)∧TT 1 (AG (lj p s data i) j (j + 1))))))))) (TT 3 (an [[(LI (s.mems.getD j []))]] ([s.mems.getD j []].map ac)∧((ao (pE p s data) j).length + ([s.mems.getD j []].map ac).length ≤ 137438953472∧(ao (pE p s data) j).map ac ++ [s.mems.getD j []].map ac = (ao (pE p s data) (j + 1)).map ac)∧TT 3 (W6 ((j + 1 : Nat) : Int)∧TT 1 (AG (lj p s data i) j (j + 1))))))))))) (TT 3 ((ao (fun z => (a5 p s data (p.regs.getD z bI).next).1) i).map (ae .i64) = ((cg p s data).regs).map (ae .i64)∧(ao (pE p s data) j).map ac = ((cg p s data).mems).map ac∧True)))))))))) (.g 2 2 0 3 1 (ae .i64) 0 <| .l (pn p s data) 0 (fun i => .b 14 (.w 5 [(10,(li p s data 2 ((p.regs.getD i bI).next)).O),(12,.box 3 1 (ae .i64) 0 [(a5 p s data ((p.regs.getD i bI).next)).1]),(13,.box 3 1 (ae .i64) 0 (ao (fun z => (a5 p s data (p.regs.getD z bI).next).1) (i + 1)))] <| .w 4 [(1,.val (i6 ((i + 1 : Nat) : Int)))] <| .e) (.g 6 2 1 28 1 ac [] <| .l (lj p s data i) 0 (fun j => .b 37 (.w 10 [(0,.box 3 1 (ae .i64) 0 ([] : List Int)),(7,.box 3 1 (ae .i64) 0 (s.mems.getD j []))] <| .w 11 [(3,(nA p s data ((p.mems.getD j aI).enable)).O)] <| .b 57 (.w 12 [(4,(li p s data 2 ((p.mems.getD j aI).addr)).O),(12,(li p s data 2 ((p.mems.getD j aI).data)).O),(15,.box 3 1 (ae .i64) 0 ((s.mems.getD j []).set ((Int.tmod ((a5 p s data ((p.mems.getD j aI).addr)).1) ((p.mems.getD j aI).words)).toNat) ((a5 p s data ((p.mems.getD j aI).data)).1)))] <| .f 13 6 <| .w 13 [(3,.box 28 1 ac [] [(s.mems.getD j []).set ((Int.tmod ((a5 p s data ((p.mems.getD j aI).addr)).1) ((p.mems.getD j aI).words)).toNat) ((a5 p s data ((p.mems.getD j aI).data)).1)]),(4,.box 28 1 ac [] (ao (pE p s data) (j + 1)))] <| .w 8 [(1,.val (i6 ((j + 1 : Nat) : Int)))] <| .e) (.f 13 6 <| .w 13 [(3,.box 28 1 ac [] [s.mems.getD j []]),(4,.box 28 1 ac [] (ao (pE p s data) (j + 1)))] <| .w 8 [(1,.val (i6 ((j + 1 : Nat) : Int)))] <| .e)) (.e))))) Tryz.func106 rfl rfl rfl (by kernel_rfl) ?_
 refine tt ⟨rfl,(by omega),?_⟩
 intro i hinv
 have hi := hinv
 refine tt (cd (fun hc14 => ?_) (fun hc14 => ?_))
 · have hrn := hp.rw i (by omega)
   refine tt ⟨ix,tt ⟨(jn ho hmw 2 ((p.regs.getD i bI).next) _ hrn.2.2.1 hrn.2.2.2),tt ⟨⟨⟨rfl,oK⟩,oK⟩,⟨(gw (f := fun z => (a5 p s data (p.regs.getD z bI).next).1) (by omega)),tt ⟨w6,tt ⟨(i + 1),rfl,(?_ : (i + 1) ≤ p.regs.length),(?_ : p.regs.length - (i + 1) < p.regs.length - i)⟩⟩⟩⟩⟩⟩
   · omega
   · omega
 · refine tt ⟨rfl,(by omega),?_⟩
   intro j hinv
   have hj := hinv
   refine tt (cd (fun hc37 => ?_) (fun hc37 => ?_))
   · have hmz : 1 ≤ (p.mems.getD j aI).words∧(p.mems.getD j aI).words ≤ 4 := (hp.mw j (by omega)).2.1
     have hml : ((s.mems.getD j []).length : Int) = (p.mems.getD j aI).words := hso.mn j (by omega)
     have hme := (hp.mw j (by omega)).2.2.1
     have hmb := (hp.mw j (by omega)).2.2.2
     obtain ⟨va,hma⟩ := hmb.1.1
     have had : 0 ≤ Int.tmod (a5 p s data (p.mems.getD j aI).addr).1 (p.mems.getD j aI).words∧Int.tmod (a5 p s data (p.mems.getD j aI).addr).1 (p.mems.getD j aI).words < (s.mems.getD j []).length∧(p.mems.getD j aI).words ≠ 0 := Bc hp hso hda (show j < p.mems.length by omega)
     refine tt ⟨ix,tt ⟨oK,tt ⟨ix,tt ⟨⟨by simp only [List.length_map,List.length_nil]; omega,by simp⟩,tt ⟨(tO p s data ((p.mems.getD j aI).enable) ho hmw hme.1 hme.2),⟨fun hc57 => ?_,fun hc57 => ?_⟩⟩⟩⟩⟩⟩
     · refine tt ⟨(jn ho hmw 2 ((p.mems.getD j aI).addr) _ hma hmb.1.2),tt ⟨om,tt ⟨(jn ho hmw 2 ((p.mems.getD j aI).data) _ hmb.2.1 hmb.2.2),tt ⟨ix,⟨⟨om,by simp only [List.map_set]; rfl⟩,tt ⟨⟨⟨rfl,oK⟩,oK⟩,⟨(bp (by omega) (by first | exact wF hc57 | exact Bb (by rw [hc57]; simp))),tt ⟨w6,tt ⟨(j + 1),rfl,(?_ : (j + 1) ≤ p.mems.length),(?_ : p.mems.length - (j + 1) < p.mems.length - j)⟩⟩⟩⟩⟩⟩⟩⟩⟩
       · omega
       · omega
     · refine tt ⟨⟨⟨rfl,oK⟩,oK⟩,⟨(bp (by omega) (by first | exact wF hc57 | exact Bb (by rw [hc57]; simp))),tt ⟨w6,tt ⟨(j + 1),rfl,(?_ : (j + 1) ≤ p.mems.length),(?_ : p.mems.length - (j + 1) < p.mems.length - j)⟩⟩⟩⟩
       · omega
       · omega
   · refine tt ⟨(congrArg _ (?_ : (ao (fun z => (a5 p s data (p.regs.getD z bI).next).1) i) = ((cg p s data).regs))),(congrArg _ (?_ : (ao (pE p s data) j) = ((cg p s data).mems))),oK⟩
     · rw [show i = p.regs.length by omega]; rfl
     · rw [show j = p.mems.length by omega]; rfl
abbrev Ln (p : Pr) (s : Ps) (hs : List Hd) (rs : List Bool) : Ct := ⟨95,[(BL p),(.agg (lh s)),(.agg [(dL 2 bO aR hs),(LB rs)])],true,(.agg [(dB ((aK p s hs rs).fires)),(LI (((aK p s hs rs).s).regs)),(dL 1 ac [] (((aK p s hs rs).s).mems)),(LB ((aK p s hs rs).pops)),(dL 2 bO aR ((aK p s hs rs).puts))])⟩
abbrev gP (p : Pr) (s : Ps) (hs : List Hd) (rs : List Bool) : Lp (Nat × Bool) := uZ [3,5,6,7,8,9] 16 (fun (i : Nat) (fir : Bool) => ⟨[(3,jm),(5,(.ptr 2 0 0 0)),(6,(.ptr 3 0 0 0)),(7,(.ptr 4 0 0 0)),(8,(.ptr 15 0 0 0)),(9,(i6 (i : Int)))],[(mJ p),(.var 112 (lh s)),(.var 196 [(dL 2 bO aR hs),(LB rs)]),BM,(BK p s hs),.dead,.dead,.dead,.dead,(.arr 4 1 aO false (List.replicate p.takes.length false)),.dead,.dead,.dead,(.arr 182 2 bO aR (List.replicate p.puts.length aR)),.dead,(.var 179 [(dB fir),(LI s.regs),(dL 1 ac [] s.mems),(.own 9),(.own 13)])]⟩) (fun (i : Nat) (fir : Bool) => i ≤ p.takes.length∧fir = cz (gv p s hs) i) (fun (i : Nat) (fir : Bool) => p.takes.length - i)
abbrev gQ (p : Pr) (s : Ps) (hs : List Hd) (rs : List Bool) (fir : Bool) : Lp (Nat × Bool) := uZ [3,5,6,7,8,10] 16 (fun (m : Nat) (fi2 : Bool) => ⟨[(3,jm),(5,(.ptr 2 0 0 0)),(6,(.ptr 3 0 0 0)),(7,(.ptr 4 0 0 0)),(8,(.ptr 15 0 0 0)),(10,(i6 (m : Int)))],[(mJ p),(.var 112 (lh s)),(.var 196 [(dL 2 bO aR hs),(LB rs)]),BM,(BK p s hs),.dead,.dead,.dead,.dead,(.arr 4 1 aO false (List.replicate p.takes.length false)),.dead,.dead,.dead,(.arr 182 2 bO aR (List.replicate p.puts.length aR)),.dead,(.var 179 [(dB fi2),(LI s.regs),(dL 1 ac [] s.mems),(.own 9),(.own 13)])]⟩) (fun (m : Nat) (fi2 : Bool) => m ≤ p.puts.length∧fi2 = (fir && cz (i8 p s hs rs) m)) (fun (m : Nat) (fi2 : Bool) => p.puts.length - m)
abbrev mc (p : Pr) (s : Ps) (hs : List Hd) (rs : List Bool) (fi2 : Bool) : Lp (Nat × List Bool) := uZ [3,6,7,8,11] 16 (fun (q : Nat) (pop : List Bool) => ⟨[(3,jm),(6,(.ptr 3 0 0 0)),(7,(.ptr 4 0 0 0)),(8,(.ptr 15 0 0 0)),(11,(i6 (q : Int)))],[(mJ p),(.var 112 (lh s)),(.var 196 [(dL 2 bO aR hs),(LB rs)]),BM,(BK p s hs),.dead,.dead,.dead,.dead,(.arr 4 1 aO false pop),.dead,.dead,.dead,(.arr 182 2 bO aR (List.replicate p.puts.length aR)),.dead,(.var 179 [(dB fi2),(LI ((cg p s (bM p s hs)).regs)),(dL 1 ac [] ((cg p s (bM p s hs)).mems)),(.own 9),(.own 13)])]⟩) (fun (q : Nat) (pop : List Bool) => q ≤ p.takes.length∧pop = cN (kP p s hs) (List.replicate p.takes.length false) q) (fun (q : Nat) (pop : List Bool) => p.takes.length - q)
abbrev jo (p : Pr) (s : Ps) (hs : List Hd) (rs : List Bool) (fi2 : Bool) (pop : List Bool) : Lp (Nat × List Hd) := uZ [3,6,7,8,12] 16 (fun (t : Nat) (put : List Hd) => ⟨[(3,jm),(6,(.ptr 3 0 0 0)),(7,(.ptr 4 0 0 0)),(8,(.ptr 15 0 0 0)),(12,(i6 (t : Int)))],[(mJ p),(.var 112 (lh s)),(.var 196 [(dL 2 bO aR hs),(LB rs)]),BM,(BK p s hs),.dead,.dead,.dead,.dead,(.arr 4 1 aO false pop),.dead,.dead,.dead,(.arr 182 2 bO aR put),.dead,(.var 179 [(dB fi2),(LI ((cg p s (bM p s hs)).regs)),(dL 1 ac [] ((cg p s (bM p s hs)).mems)),(.own 9),(.own 13)])]⟩) (fun (t : Nat) (put : List Hd) => t ≤ p.puts.length∧put = cN (kQ p s hs) (List.replicate p.puts.length aR) t) (fun (t : Nat) (put : List Hd) => p.puts.length - t)
theorem Dk (p : Pr) (s : Ps) (hs : List Hd) (rs : List Bool) (hp : fL p) (hso : nb p s) (hh : yd p hs) (hrs : rs.length = p.puts.length) : CC (Ln p s hs rs) := by
 have ht1 := hp.tl
 have ht2 := hp.pl
 have hhl := hh.l
 have hmw := hso.mn
 have ho := fM hp hso (s8 (s := s) (hs := hs) hp hh)
 have hda := s8 (s := s) (hs := hs) hp hh
 refine ah.vc (V := TT 7 (CC (IP p s hs rs)∧TT 6 ((((0 : Int) ≤ (p.takes.length : Int)∧(p.takes.length : Int) ≤ (p.takes.length : Int)∧(p.takes.length : Int) ≤ 137438953472)∧(List.replicate p.takes.length false).length = p.takes.length∧∀ x ∈ (List.replicate p.takes.length false),cO [(dB false)] (aO x))∧TT 3 ((((0 : Int) ≤ (p.puts.length : Int)∧(p.puts.length : Int) ≤ (p.puts.length : Int)∧(p.puts.length : Int) ≤ 137438953472)∧(List.replicate p.puts.length aR).length = p.puts.length∧∀ x ∈ (List.replicate p.puts.length aR),cO [(dB false),(i6 0)] (bO x))∧TT 4 (GO (gP p s hs rs) (0,true) (∀ i fir,(gP p s hs rs).inv (i,fir) → TT 5 (CD ((i : Int) < (p.takes.length : Int)) (CS (fir = true) (CS (((hs.getD i aR).has) = true) (TT 2 ((True∧fir = true)∧TT 3 (IX (i : Int) hs.length∧TT 2 ((True∧((hs.getD i aR).has) = true)∧TT 5 (W6 ((i + 1 : Nat) : Int)∧TT 1 (AG (gP p s hs rs) (i,fir) (i + 1,true))))))) (TT 2 ((True∧fir = true)∧TT 3 (IX (i : Int) hs.length∧TT 2 ((True∧((hs.getD i aR).has) = false)∧TT 4 (IX (i : Int) p.takes.length∧TT 2 (CC (nA p s (bM p s hs) ((p.takes.getD i bK).when))∧TT 6 (W6 ((i + 1 : Nat) : Int)∧TT 1 (AG (gP p s hs rs) (i,fir) (i + 1,!(dH p s (bM p s hs) ((p.takes.getD i bK).when)))))))))))) (TT 2 ((True∧fir = false)∧TT 4 (W6 ((i + 1 : Nat) : Int)∧TT 1 (AG (gP p s hs rs) (i,fir) (i + 1,false)))))) (TT 1 (GO (gQ p s hs rs fir) (0,fir) (∀ m fi2,(gQ p s hs rs fir).inv (m,fi2) → TT 5 (CD ((m : Int) < (p.puts.length : Int)) (CS (fi2 = true) (CS ((rs.getD m false) = true) (TT 2 ((True∧fi2 = true)∧TT 3 (IX (m : Int) rs.length∧TT 1 ((True∧(rs.getD m false) = true)∧TT 5 (W6 ((m + 1 : Nat) : Int)∧TT 1 (AG (gQ p s hs rs fir) (m,fi2) (m + 1,true))))))) (TT 2 ((True∧fi2 = true)∧TT 3 (IX (m : Int) rs.length∧TT 1 ((True∧(rs.getD m false) = false)∧TT 4 (IX (m : Int) p.puts.length∧TT 2 (CC (nA p s (bM p s hs) ((p.puts.getD m bn).when))∧TT 6 (W6 ((m + 1 : Nat) : Int)∧TT 1 (AG (gQ p s hs rs fir) (m,fi2) (m + 1,!(dH p s (bM p s hs) ((p.puts.getD m bn).when)))))))))))) (TT 2 ((True∧fi2 = false)∧TT 4 (W6 ((m + 1 : Nat) : Int)∧TT 1 (AG (gQ p s hs rs fir) (m,fi2) (m + 1,false)))))) (TT 3 (CB (!fi2) (TT 3 (fi2 = ((aK p s hs rs).fires)∧s.regs.map (ae .i64) = (((aK p s hs rs).s).regs).map (ae .i64)∧s.mems.map ac = (((aK p s hs rs).s).mems).map ac∧(List.replicate p.takes.length false).map aO = ((aK p s hs rs).pops).map aO∧(List.replicate p.puts.length aR).map bO = ((aK p s hs rs).puts).map bO∧True)) (TT 1 (CC (IQ p s (bM p s hs))∧TT 3 (GO (mc p s hs rs fi2) (0,List.replicate p.takes.length false) (∀ q pop,(mc p s hs rs fi2).inv (q,pop) → TT 5 (CD ((q : Int) < (p.takes.length : Int)) (TT 7 (IX (q : Int) p.takes.length∧TT 2 (CC (nA p s (bM p s hs) ((p.takes.getD q bK).when))∧IX (q : Int) pop.length∧(q < pop.length∧(pop.map aO).set q ((aO (pop.getD q false)).take 0 ++ [(.bool (dH p s (bM p s hs) ((p.takes.getD q bK).when)))] ++ (aO (pop.getD q false)).drop (0 + 1)) = (pop.set q (dH p s (bM p s hs) ((p.takes.getD q bK).when))).map aO)∧TT 1 (W6 ((q + 1 : Nat) : Int)∧TT 1 (AG (mc p s hs rs fi2) (q,pop) (q + 1,pop.set q (dH p s (bM p s hs) ((p.takes.getD q bK).when)))))))) (TT 1 (GO (jo p s hs rs fi2 pop) (0,List.replicate p.puts.length aR) (∀ t put,(jo p s hs rs fi2 pop).inv (t,put) → TT 5 (CD ((t : Int) < (p.puts.length : Int)) (TT 4 (IX (t : Int) p.puts.length∧TT 2 (CC (nA p s (bM p s hs) ((p.puts.getD t bn).when))∧CB (dH p s (bM p s hs) ((p.puts.getD t bn).when)) (TT 7 (IX (t : Int) p.puts.length∧TT 2 (CC (li p s (bM p s hs) 2 ((p.puts.getD t bn).data))∧TT 2 (IX (t : Int) put.length∧(t < put.length∧(put.map bO).set t ((bO (put.getD t aR)).take 0 ++ [(.bool true),(.int .i64 ((a5 p s (bM p s hs) ((p.puts.getD t bn).data)).1))] ++ (bO (put.getD t aR)).drop (0 + 2)) = (put.set t (⟨true,(a5 p s (bM p s hs) ((p.puts.getD t bn).data)).1⟩ : Hd)).map bO)∧TT 1 (W6 ((t + 1 : Nat) : Int)∧TT 1 (AG (jo p s hs rs fi2 pop) (t,put) (t + 1,put.set t (⟨true,(a5 p s (bM p s hs) ((p.puts.getD t bn).data)).1⟩ : Hd)))))))) (TT 1 (W6 ((t + 1 : Nat) : Int)∧TT 1 (AG (jo p s hs rs fi2 pop) (t,put) (t + 1,put))))))) (TT 3 (fi2 = ((aK p s hs rs).fires)∧((cg p s (bM p s hs)).regs).map (ae .i64) = (((aK p s hs rs).s).regs).map (ae .i64)∧((cg p s (bM p s hs)).mems).map ac = (((aK p s hs rs).s).mems).map ac∧pop.map aO = ((aK p s hs rs).pops).map aO∧put.map bO = ((aK p s hs rs).puts).map bO∧True)))))))))))))))))))))))) (.w 1 [(3,(IP p s hs rs).O)] <| .w 2 [(4,.box 4 1 aO false (List.replicate p.takes.length false)),(8,.box 182 2 bO aR (List.replicate p.puts.length aR))] <| .l (gP p s hs rs) (0,true) (fun ⟨i,fir⟩ => .b 31 (.s 6 (fir = true) (.s 6 (((hs.getD i aR).has) = true) (.w 6 [(2,.val (dB true)),(9,.val (dB true))] <| .w 5 [(1,.val (i6 ((i + 1 : Nat) : Int)))] <| .e) (.w 6 [(2,.val (dB true)),(9,.val (dB false)),(17,(nA p s (bM p s hs) ((p.takes.getD i bK).when)).O)] <| .w 5 [(1,.val (i6 ((i + 1 : Nat) : Int)))] <| .e)) (.w 6 [(2,.val (dB false))] <| .w 5 [(1,.val (i6 ((i + 1 : Nat) : Int)))] <| .e)) (.l (gQ p s hs rs fir) (0,fir) (fun ⟨m,fi2⟩ => .b 60 (.s 10 (fi2 = true) (.s 10 ((rs.getD m false) = true) (.w 10 [(2,.val (dB true)),(8,.val (dB true))] <| .w 9 [(1,.val (i6 ((m + 1 : Nat) : Int)))] <| .e) (.w 10 [(2,.val (dB true)),(8,.val (dB false)),(16,(nA p s (bM p s hs) ((p.puts.getD m bn).when)).O)] <| .w 9 [(1,.val (i6 ((m + 1 : Nat) : Int)))] <| .e)) (.w 10 [(2,.val (dB false))] <| .w 9 [(1,.val (i6 ((m + 1 : Nat) : Int)))] <| .e)) (.b 86 (.e) (.w 13 [(1,(IQ p s (bM p s hs)).O)] <| .l (mc p s hs rs fi2) (0,List.replicate p.takes.length false) (fun ⟨q,pop⟩ => .b 95 (.w 17 [(10,(nA p s (bM p s hs) ((p.takes.getD q bK).when)).O),(12,.box 4 1 aO false (pop.set q (dH p s (bM p s hs) ((p.takes.getD q bK).when))))] <| .w 16 [(1,.val (i6 ((q + 1 : Nat) : Int)))] <| .e) (.l (jo p s hs rs fi2 pop) (0,List.replicate p.puts.length aR) (fun ⟨t,put⟩ => .b 114 (.w 21 [(7,(nA p s (bM p s hs) ((p.puts.getD t bn).when)).O)] <| .b 124 (.w 22 [(10,(li p s (bM p s hs) 2 ((p.puts.getD t bn).data)).O),(14,.box 182 2 bO aR (put.set t (⟨true,(a5 p s (bM p s hs) ((p.puts.getD t bn).data)).1⟩ : Hd)))] <| .w 20 [(1,.val (i6 ((t + 1 : Nat) : Int)))] <| .e) (.w 20 [(1,.val (i6 ((t + 1 : Nat) : Int)))] <| .e)) (.e)))))))))) Tryz.func95 rfl rfl rfl (by kernel_rfl) ?_
 refine tt ⟨(Ab p s hs rs hp hso hh),tt ⟨⟨by omega,List.length_replicate,fun x hx => by rw [List.eq_of_mem_replicate hx]; exact ⟨rfl,oK⟩⟩,tt ⟨⟨by omega,List.length_replicate,fun x hx => by rw [List.eq_of_mem_replicate hx]; exact ⟨rfl,rfl,oK⟩⟩,tt ⟨rfl,⟨by omega,rfl⟩,?_⟩⟩⟩⟩
 intro i fir hinv
 obtain ⟨hi,hfir⟩ := hinv
 refine tt (cd (fun hc31 => ?_) (fun hc31 => ?_))
 · have hwh := rM hp (show i < p.takes.length by omega)
   refine ⟨fun hs0 => ?_,fun hs0 => ?_⟩
   · refine ⟨fun hs1 => ?_,fun hs1 => ?_⟩
     · refine tt ⟨(bT hs0),tt ⟨ix,tt ⟨(bT hs1),tt ⟨w6,tt ⟨(i + 1,true),rfl,?_,(?_ : p.takes.length - (i + 1) < p.takes.length - i)⟩⟩⟩⟩⟩
       · exact ⟨by omega,kS hfir _ (by unfold gv; clear hfir; cases fir <;> simp_all)⟩
       · omega
     · refine tt ⟨(bT hs0),tt ⟨ix,tt ⟨(bF hs1),tt ⟨ix,tt ⟨(tO p s (bM p s hs) ((p.takes.getD i bK).when) ho hmw hwh.1 hwh.2),tt ⟨w6,tt ⟨(i + 1,!(dH p s (bM p s hs) ((p.takes.getD i bK).when))),rfl,?_,(?_ : p.takes.length - (i + 1) < p.takes.length - i)⟩⟩⟩⟩⟩⟩⟩
       · exact ⟨by omega,kS hfir _ (by unfold gv; clear hfir; cases fir <;> simp_all)⟩
       · omega
   · refine tt ⟨(bF hs0),tt ⟨w6,tt ⟨(i + 1,false),rfl,?_,(?_ : p.takes.length - (i + 1) < p.takes.length - i)⟩⟩⟩
     · exact ⟨by omega,kS hfir _ (by unfold gv; clear hfir; cases fir <;> simp_all)⟩
     · omega
 · refine tt ⟨rfl,⟨by omega,by simp [cz]⟩,?_⟩
   intro m fi2 hinv
   obtain ⟨hm,hfi2⟩ := hinv
   refine tt (cd (fun hc60 => ?_) (fun hc60 => ?_))
   · have hpw := hp.pw m (by omega)
     refine ⟨fun hs2 => ?_,fun hs2 => ?_⟩
     · refine ⟨fun hs3 => ?_,fun hs3 => ?_⟩
       · refine tt ⟨(bT hs2),tt ⟨ix,tt ⟨(bT hs3),tt ⟨w6,tt ⟨(m + 1,true),rfl,?_,(?_ : p.puts.length - (m + 1) < p.puts.length - m)⟩⟩⟩⟩⟩
         · exact ⟨by omega,qi hfi2 _ (by unfold i8; clear hfi2 hfir; cases fi2 <;> simp_all)⟩
         · omega
       · refine tt ⟨(bT hs2),tt ⟨ix,tt ⟨(bF hs3),tt ⟨ix,tt ⟨(tO p s (bM p s hs) ((p.puts.getD m bn).when) ho hmw hpw.2.1.1 hpw.2.1.2),tt ⟨w6,tt ⟨(m + 1,!(dH p s (bM p s hs) ((p.puts.getD m bn).when))),rfl,?_,(?_ : p.puts.length - (m + 1) < p.puts.length - m)⟩⟩⟩⟩⟩⟩⟩
         · exact ⟨by omega,qi hfi2 _ (by unfold i8; clear hfi2 hfir; cases fi2 <;> simp_all)⟩
         · omega
     · refine tt ⟨(bF hs2),tt ⟨w6,tt ⟨(m + 1,false),rfl,?_,(?_ : p.puts.length - (m + 1) < p.puts.length - m)⟩⟩⟩
       · exact ⟨by omega,qi hfi2 _ (by unfold i8; clear hfi2 hfir; cases fi2 <;> simp_all)⟩
       · omega
   · have hie : i = p.takes.length := by omega
     have hme : m = p.puts.length := by omega
     refine tt ⟨fun hc86 => ?_,fun hc86 => ?_⟩
     · refine tt ⟨?_,(congrArg _ (?_ : s.regs = (((aK p s hs rs).s).regs))),(congrArg _ (?_ : s.mems = (((aK p s hs rs).s).mems))),(congrArg _ (?_ : (List.replicate p.takes.length false) = ((aK p s hs rs).pops))),(congrArg _ (?_ : (List.replicate p.puts.length aR) = ((aK p s hs rs).puts))),oK⟩
       all_goals
         rw [A7 (by rw [lK (rs := rs) (a := fir) (b := fi2) (by rw [hfir,hie]) (by rw [hfi2,hme])]; simpa using hc86)]
         first | done | rfl | simpa using hc86
     · refine tt ⟨(FI p s (bM p s hs) hp hso hda),tt ⟨rfl,⟨by omega,rfl⟩,?_⟩⟩
       intro q pop hinv
       obtain ⟨hq,hpop⟩ := hinv
       have hpl : pop.length = p.takes.length := by rw [hpop,d5 (by rw [List.length_replicate]; exact hq),List.length_replicate]
       refine tt (cd (fun hc95 => ?_) (fun hc95 => ?_))
       · have hwh := rM hp (show q < p.takes.length by omega)
         refine tt ⟨ix,tt ⟨(tO p s (bM p s hs) ((p.takes.getD q bK).when) ho hmw hwh.1 hwh.2),⟨ix,⟨⟨om,by simp only [List.map_set]; rfl⟩,tt ⟨w6,tt ⟨(q + 1,pop.set q (dH p s (bM p s hs) ((p.takes.getD q bK).when))),rfl,?_,(?_ : p.takes.length - (q + 1) < p.takes.length - q)⟩⟩⟩⟩⟩⟩
         · exact ⟨by omega,by rw [hpop]; exact b5 (by rw [List.length_replicate]; omega) rfl⟩
         · omega
       · refine tt ⟨rfl,⟨by omega,rfl⟩,?_⟩
         intro t put hinv
         obtain ⟨ht,hput⟩ := hinv
         have hql : put.length = p.puts.length := by rw [hput,d5 (by rw [List.length_replicate]; exact ht),List.length_replicate]
         refine tt (cd (fun hc114 => ?_) (fun hc114 => ?_))
         · have hpw := hp.pw t (by omega)
           refine tt ⟨ix,tt ⟨(tO p s (bM p s hs) ((p.puts.getD t bn).when) ho hmw hpw.2.1.1 hpw.2.1.2),⟨fun hc124 => ?_,fun hc124 => ?_⟩⟩⟩
           · refine tt ⟨ix,tt ⟨(jn ho hmw 2 ((p.puts.getD t bn).data) _ hpw.2.2.1 hpw.2.2.2),tt ⟨ix,⟨⟨om,by simp only [List.map_set]; rfl⟩,tt ⟨w6,tt ⟨(t + 1,put.set t (⟨true,(a5 p s (bM p s hs) ((p.puts.getD t bn).data)).1⟩ : Hd)),rfl,?_,(?_ : p.puts.length - (t + 1) < p.puts.length - t)⟩⟩⟩⟩⟩⟩
             · exact ⟨by omega,by rw [hput]; exact b5 (by rw [List.length_replicate]; omega) (if_pos hc124)⟩
             · omega
           · refine tt ⟨w6,tt ⟨(t + 1,put),rfl,?_,(?_ : p.puts.length - (t + 1) < p.puts.length - t)⟩⟩
             · exact ⟨by omega,by rw [hput]; exact b8 (d := aR) (by rw [List.length_replicate]; omega) ((if_neg (by rw [hc124]; simp)).trans b6.symm)⟩
             · omega
         · refine tt ⟨?_,(congrArg _ (?_ : ((cg p s (bM p s hs)).regs) = (((aK p s hs rs).s).regs))),(congrArg _ (?_ : ((cg p s (bM p s hs)).mems) = (((aK p s hs rs).s).mems))),(congrArg _ (?_ : pop = ((aK p s hs rs).pops))),(congrArg _ (?_ : put = ((aK p s hs rs).puts))),oK⟩
           all_goals
             rw [wE (by rw [lK (rs := rs) (a := fir) (b := fi2) (by rw [hfir,hie]) (by rw [hfi2,hme])]; simpa using hc86)]
             first | done | (simpa using hc86) | (rw [hpop,show q = p.takes.length by omega,dj (by rw [List.length_replicate]; exact Nat.le_refl _)]) | (rw [hput,show t = p.puts.length by omega,dj (by rw [List.length_replicate]; exact Nat.le_refl _)])
end Go.Proofs.YtgmpoenfoacofaaGreat
