/-
  The reference of package process.
-/
import Derived.Test.YtifoecfajmnjjaaGreatQPrA
import Derived.Test.YtifoecfajmnjjaaGreatQPrT
import Derived.Test.YtifoecfajmnjjaaGreatQVrA
namespace Go.Proofs.YtifoecfajmnjjaaGreat
open Go.RowKit
set_option linter.unusedVariables false
set_option linter.unusedSimpArgs false
abbrev nj (p : Pr) : aH := (.var 55 [(dS p.name),(dS p.clock),(dL 13 jj bG p.regs),(dL 27 qt aR p.mems),(dL 9 iK bq p.takes),(dL 16 fe a5 p.puts)])
abbrev AA (p : Pr) (s : Ps) (hs : List Hd) : aH := (.var 156 [(dS p.name),(dS p.clock),(dL 13 jj bG p.regs),(dL 27 qt aR p.mems),(dL 9 iK bq p.takes),(dL 16 fe a5 p.puts),(LI s.regs),(dL 1 af [] s.mems),(LI (bV p s hs))])
abbrev AB (p : Pr) : D := (.agg [(dS p.name),(dS p.clock),(dL 13 jj bG p.regs),(dL 27 qt aR p.mems),(dL 9 iK bq p.takes),(dL 16 fe a5 p.puts)])
abbrev DX (p : Pr) (s : Ps) (data : List Int) : aH := (.var 156 [(dS p.name),(dS p.clock),(dL 13 jj bG p.regs),(dL 27 qt aR p.mems),(dL 9 iK bq p.takes),(dL 16 fe a5 p.puts),(LI s.regs),(dL 1 af [] s.mems),(LI data)])
abbrev DY (p : Pr) (s : Ps) (data : List Int) : D := (.agg [(dS p.name),(dS p.clock),(dL 13 jj bG p.regs),(dL 27 qt aR p.mems),(dL 9 iK bq p.takes),(dL 16 fe a5 p.puts),(LI s.regs),(dL 1 af [] s.mems),(LI data)])
abbrev lJ (s : Ps) : List D := [(LI s.regs),(dL 1 af [] s.mems)]
abbrev jb : D := (.ptr 0 0 0 0)
abbrev AC : aH := (.var 48 [(dB false),.nils,.nils,.nils,.nils])
set_option maxRecDepth 100000
abbrev HR (v w : Int) : Ct := ⟨81,[(i6 v),(i6 w)],false,(dB (cr v w))⟩
theorem xy (v w : Int) (h1 : 0 ≤ w) (h2 : w ≤ 62) : CC (HR v w) := by
 refine ak.vc (V := TT 1 (CS (v ≥ 0) (TT 2 ((True∧(decide (v ≥ 0)) = true)∧TT 2 ((True∧IntKind.u64.wrap w = w)∧(0 ≤ w∧(Int.fdiv v (2 ^ min w.toNat 64)) = (v / 2 ^ w.toNat))∧TT 4 (((v / 2 ^ w.toNat) == 0) = (cr v w)∧True)))) (TT 2 ((True∧(decide (v ≥ 0)) = false)∧TT 8 (false = (cr v w)∧True))))) (.s 1 (v ≥ 0) (.w 1 [(2,.val (dB true)),(5,.val (dI .u64 w)),(6,.val (i6 (v / 2 ^ w.toNat)))] <| .e) (.w 1 [(2,.val (dB false))] <| .e)) Tryz.func81 rfl rfl rfl (by kernel_rfl) ?_
 refine tt ⟨fun hs0 => ?_,fun hs0 => ?_⟩
 · refine tt ⟨(vT hs0),tt ⟨⟨oK,Cw rfl om om⟩,⟨⟨(by omega),(vo h1 h2)⟩,tt ⟨?_,oK⟩⟩⟩⟩
   first | exact z8 (by omega) h1 h2 | (unfold cr; rw [decide_eq_false (by omega)]; rfl)
 · refine tt ⟨(vF hs0),tt ⟨?_,oK⟩⟩
   first | exact z8 (by omega) h1 h2 | (unfold cr; rw [decide_eq_false (by omega)]; rfl)
abbrev Jk (p : Pr) (s : Ps) : Ct := ⟨54,[(AB p),(.agg (lJ s))],false,(dB (br p s))⟩
abbrev mA (p : Pr) (s : Ps) : Lp (Nat) := gJ [2,3,5] 2 (fun (i : Nat) => ⟨[(2,jb),(3,(.ptr 1 0 0 0)),(5,(i6 (i : Int)))],[(nj p),(.var 45 (lJ s))]⟩) (fun (i : Nat) => i ≤ s.regs.length∧∀ z,z < i → cr (s.regs.getD z 0) (p.regs.getD z bG).w = true) (fun (i : Nat) => s.regs.length - i)
abbrev mB (p : Pr) (s : Ps) : Lp (Nat) := gJ [2,3,6] 2 (fun (j : Nat) => ⟨[(2,jb),(3,(.ptr 1 0 0 0)),(6,(i6 (j : Int)))],[(nj p),(.var 45 (lJ s))]⟩) (fun (j : Nat) => j ≤ s.mems.length∧∀ z,z < j → gD p s z = true) (fun (j : Nat) => s.mems.length - j)
abbrev mC (p : Pr) (s : Ps) (j : Nat) : Lp (Nat) := gJ [2,3,6,7] 15 (fun (k : Nat) => ⟨[(2,jb),(3,(.ptr 1 0 0 0)),(6,(i6 (j : Int))),(7,(i6 (k : Int)))],[(nj p),(.var 45 (lJ s)),.dead,.dead,.dead,.dead,.dead,.dead,.dead,.dead,.dead,.dead,.dead,.dead,.dead]⟩) (fun (k : Nat) => k ≤ (s.mems.getD j []).length∧∀ z,z < k → cr ((s.mems.getD j []).getD z 0) (p.mems.getD j aR).w = true) (fun (k : Nat) => (s.mems.getD j []).length - k)
theorem BK (p : Pr) (s : Ps) (hp : fS p) : CC (Jk p s) := by
 have hl1 := hp.rl
 have hl2 := hp.ml
 refine ak.vc (V := TT 3 (CS ((s.regs.length : Int) = (p.regs.length : Int)) (TT 7 ((True∧(!decide ((s.regs.length : Int) = (p.regs.length : Int))) = false)∧TT 8 (CN ((s.mems.length : Int) = (p.mems.length : Int)) (TT 2 (false = (br p s)∧True)) (TT 1 (GO (mA p s) 0 (∀ i,(mA p s).inv i → TT 5 (CD ((i : Int) < (s.regs.length : Int)) (TT 3 (IX (i : Int) s.regs.length∧TT 4 (IX (i : Int) p.regs.length∧TT 2 (CC (HR (s.regs.getD i 0) ((p.regs.getD i bG).w))∧TT 1 (CB (!(cr (s.regs.getD i 0) ((p.regs.getD i bG).w))) (TT 2 (false = (br p s)∧True)) (TT 1 (W6 ((i + 1 : Nat) : Int)∧TT 1 (AG (mA p s) i (i + 1))))))))) (TT 1 (GO (mB p s) 0 (∀ j,(mB p s).inv j → TT 5 (CD ((j : Int) < (s.mems.length : Int)) (TT 3 (IX (j : Int) s.mems.length∧TT 5 (IX (j : Int) p.mems.length∧TT 3 (CN ((((s.mems.getD j []).length : Nat) : Int) = ((p.mems.getD j aR).words)) (TT 2 (false = (br p s)∧True)) (TT 1 (GO (mC p s j) 0 (∀ k,(mC p s j).inv k → TT 4 (IX (j : Int) s.mems.length∧TT 3 (CD ((k : Int) < (((s.mems.getD j []).length : Nat) : Int)) (TT 3 (IX (j : Int) s.mems.length∧TT 2 (IX (k : Int) ((s.mems.getD j []).length)∧TT 4 (IX (j : Int) p.mems.length∧TT 2 (CC (HR ((s.mems.getD j []).getD k 0) ((p.mems.getD j aR).w))∧TT 1 (CB (!(cr ((s.mems.getD j []).getD k 0) ((p.mems.getD j aR).w))) (TT 2 (false = (br p s)∧True)) (TT 1 (W6 ((k + 1 : Nat) : Int)∧TT 1 (AG (mC p s j) k (k + 1)))))))))) (TT 1 (W6 ((j + 1 : Nat) : Int)∧TT 1 (AG (mB p s) j (j + 1))))))))))))) (TT 2 (true = (br p s)∧True))))))))))))) (TT 7 ((True∧(!decide ((s.regs.length : Int) = (p.regs.length : Int))) = true)∧TT 10 (false = (br p s)∧True))))) (.s 1 ((s.regs.length : Int) = (p.regs.length : Int)) (.w 1 [(7,.val (dB false))] <| .b 23 (.e) (.l (mA p s) 0 (fun i => .b 28 (.w 6 [(11,(HR (s.regs.getD i 0) ((p.regs.getD i bG).w)).O)] <| .b 43 (.e) (.w 5 [(1,.val (i6 ((i + 1 : Nat) : Int)))] <| .e)) (.l (mB p s) 0 (fun j => .b 48 (.b 63 (.e) (.l (mC p s j) 0 (fun k => .b 71 (.w 16 [(14,(HR ((s.mems.getD j []).getD k 0) ((p.mems.getD j aR).w)).O)] <| .b 89 (.e) (.w 15 [(1,.val (i6 ((k + 1 : Nat) : Int)))] <| .e)) (.w 10 [(1,.val (i6 ((j + 1 : Nat) : Int)))] <| .e)))) (.e)))))) (.w 1 [(7,.val (dB true))] <| .e)) Tryz.func54 rfl rfl rfl (by kernel_rfl) ?_
 refine tt ⟨fun hs0 => ?_,fun hs0 => ?_⟩
 · refine tt ⟨(nF hs0),tt (cn (fun hc23 => ?_) (fun hc23 => ?_))⟩
   · refine tt ⟨?_,oK⟩
     first | exact (cX (by omega)).symm | exact (cY (by omega)).symm | exact (cZ (i := i) (by omega) (by simpa using hc43)).symm | exact (bo (i := j) (by omega) (eV (by omega))).symm | exact (bo (i := j) (by omega) (eW (j := k) (by omega) (by simpa using hc89))).symm | exact (c4 (by omega) (by omega) (fun z hz => h3 z (by omega)) (fun z hz => h4 z (by omega))).symm
   · refine tt ⟨rfl,⟨by omega,fun z hz => by omega⟩,?_⟩
     intro i hinv
     obtain ⟨hi,h3⟩ := hinv
     refine tt (cd (fun hc28 => ?_) (fun hc28 => ?_))
     · have hrw := aW.1 (show ax (p.regs.getD i bG).w = true from (hp.rw i (by omega)).1)
       refine tt ⟨ix,tt ⟨ix,tt ⟨(xy (s.regs.getD i 0) ((p.regs.getD i bG).w) om om),tt ⟨fun hc43 => ?_,fun hc43 => ?_⟩⟩⟩⟩
       · refine tt ⟨?_,oK⟩
         first | exact (cX (by omega)).symm | exact (cY (by omega)).symm | exact (cZ (i := i) (by omega) (by simpa using hc43)).symm | exact (bo (i := j) (by omega) (eV (by omega))).symm | exact (bo (i := j) (by omega) (eW (j := k) (by omega) (by simpa using hc89))).symm | exact (c4 (by omega) (by omega) (fun z hz => h3 z (by omega)) (fun z hz => h4 z (by omega))).symm
       · refine tt ⟨w6,tt ⟨(i + 1),rfl,?_,(?_ : s.regs.length - (i + 1) < s.regs.length - i)⟩⟩
         · exact ⟨by omega,ce h3 (by simpa using hc43)⟩
         · omega
     · refine tt ⟨rfl,⟨by omega,fun z hz => by omega⟩,?_⟩
       intro j hinv
       obtain ⟨hj,h4⟩ := hinv
       refine tt (cd (fun hc48 => ?_) (fun hc48 => ?_))
       · refine tt ⟨ix,tt ⟨ix,tt (cn (fun hc63 => ?_) (fun hc63 => ?_))⟩⟩
         · refine tt ⟨?_,oK⟩
           first | exact (cX (by omega)).symm | exact (cY (by omega)).symm | exact (cZ (i := i) (by omega) (by simpa using hc43)).symm | exact (bo (i := j) (by omega) (eV (by omega))).symm | exact (bo (i := j) (by omega) (eW (j := k) (by omega) (by simpa using hc89))).symm | exact (c4 (by omega) (by omega) (fun z hz => h3 z (by omega)) (fun z hz => h4 z (by omega))).symm
         · have hmw : 1 ≤ (p.mems.getD j aR).words∧(p.mems.getD j aR).words ≤ 4 := (hp.mw j (by omega)).2.1
           refine tt ⟨rfl,⟨by omega,fun z hz => by omega⟩,?_⟩
           intro k hinv
           obtain ⟨hk,h5⟩ := hinv
           refine tt ⟨ix,tt (cd (fun hc71 => ?_) (fun hc71 => ?_))⟩
           · have hmww := aW.1 (show ax (p.mems.getD j aR).w = true from (hp.mw j (by omega)).1)
             refine tt ⟨ix,tt ⟨ix,tt ⟨ix,tt ⟨(xy ((s.mems.getD j []).getD k 0) ((p.mems.getD j aR).w) om om),tt ⟨fun hc89 => ?_,fun hc89 => ?_⟩⟩⟩⟩⟩
             · refine tt ⟨?_,oK⟩
               first | exact (cX (by omega)).symm | exact (cY (by omega)).symm | exact (cZ (i := i) (by omega) (by simpa using hc43)).symm | exact (bo (i := j) (by omega) (eV (by omega))).symm | exact (bo (i := j) (by omega) (eW (j := k) (by omega) (by simpa using hc89))).symm | exact (c4 (by omega) (by omega) (fun z hz => h3 z (by omega)) (fun z hz => h4 z (by omega))).symm
             · refine tt ⟨w6,tt ⟨(k + 1),rfl,?_,(?_ : (s.mems.getD j []).length - (k + 1) < (s.mems.getD j []).length - k)⟩⟩
               · exact ⟨by omega,ce h5 (by simpa using hc89)⟩
               · omega
           · refine tt ⟨w6,tt ⟨(j + 1),rfl,?_,(?_ : s.mems.length - (j + 1) < s.mems.length - j)⟩⟩
             · exact ⟨by omega,ce h4 (z7 (by omega) (fun z hz => h5 z (by omega)))⟩
             · omega
       · refine tt ⟨?_,oK⟩
         first | exact (cX (by omega)).symm | exact (cY (by omega)).symm | exact (cZ (i := i) (by omega) (by simpa using hc43)).symm | exact (bo (i := j) (by omega) (eV (by omega))).symm | exact (bo (i := j) (by omega) (eW (j := k) (by omega) (by simpa using hc89))).symm | exact (c4 (by omega) (by omega) (fun z hz => h3 z (by omega)) (fun z hz => h4 z (by omega))).symm
 · refine tt ⟨(nT hs0),tt ⟨?_,oK⟩⟩
   first | exact (cX (by omega)).symm | exact (cY (by omega)).symm | exact (cZ (i := i) (by omega) (by simpa using hc43)).symm | exact (bo (i := j) (by omega) (eV (by omega))).symm | exact (bo (i := j) (by omega) (eW (j := k) (by omega) (by simpa using hc89))).symm | exact (c4 (by omega) (by omega) (fun z hz => h3 z (by omega)) (fun z hz => h4 z (by omega))).symm
abbrev Jl (p : Pr) : Ct := ⟨59,[(AB p)],true,(.agg [(LI ((aX p).regs)),(dL 1 af [] ((aX p).mems))])⟩
abbrev mD (p : Pr) : Lp (Nat) := gJ [1,2,3,4] 4 (fun (i : Nat) => ⟨[(1,jb),(2,(.ptr 1 0 0 0)),(3,(.ptr 2 0 0 0)),(4,(i6 (i : Int)))],[(nj p),(.var 45 [.nils,.nils]),(.var 45 [(.own 3),.nils]),(.arr 3 1 (ah .i64) 0 (an (fun z => (p.regs.getD z bG).init) i))]⟩) (fun (i : Nat) => i ≤ p.regs.length) (fun (i : Nat) => p.regs.length - i)
abbrev mE (p : Pr) (i : Nat) : Lp (Nat) := gJ [1,2,3,5] 5 (fun (j : Nat) => ⟨[(1,jb),(2,(.ptr 1 0 0 0)),(3,(.ptr 2 0 0 0)),(5,(i6 (j : Int)))],[(nj p),(.var 45 [.nils,.nils]),(.var 45 [(.own 3),(.own 4)]),(.arr 3 1 (ah .i64) 0 (an (fun z => (p.regs.getD z bG).init) i)),(.arr 43 1 af [] (an (fun z => List.replicate (p.mems.getD z aR).words.toNat (0 : Int)) j))]⟩) (fun (j : Nat) => j ≤ p.mems.length) (fun (j : Nat) => p.mems.length - j)
theorem BL (p : Pr) (hp : fS p) : CC (Jl p) := by
 have hl1 := hp.rl
 have hl2 := hp.ml
 refine ak.vc (V := TT 6 (GO (mD p) 0 (∀ i,(mD p).inv i → TT 5 (CD ((i : Int) < (p.regs.length : Int)) (TT 5 (IX (i : Int) p.regs.length∧TT 2 (ap [[(i6 ((p.regs.getD i bG).init))]] ([(p.regs.getD i bG).init].map (ah .i64))∧((an (fun z => (p.regs.getD z bG).init) i).length + ([(p.regs.getD i bG).init].map (ah .i64)).length ≤ 137438953472∧(an (fun z => (p.regs.getD z bG).init) i).map (ah .i64) ++ [(p.regs.getD i bG).init].map (ah .i64) = (an (fun z => (p.regs.getD z bG).init) (i + 1)).map (ah .i64))∧TT 3 (W6 ((i + 1 : Nat) : Int)∧TT 1 (AG (mD p) i (i + 1)))))) (TT 1 (GO (mE p i) 0 (∀ j,(mE p i).inv j → TT 5 (CD ((j : Int) < (p.mems.length : Int)) (TT 5 (IX (j : Int) p.mems.length∧TT 2 ((((0 : Int) ≤ (p.mems.getD j aR).words∧(p.mems.getD j aR).words ≤ (p.mems.getD j aR).words∧(p.mems.getD j aR).words ≤ 137438953472)∧(List.replicate (p.mems.getD j aR).words.toNat (0 : Int)).length = ((p.mems.getD j aR).words).toNat∧∀ x ∈ (List.replicate (p.mems.getD j aR).words.toNat (0 : Int)),cG [(i6 0)] ((ah .i64) x))∧ap [[(LI (List.replicate (p.mems.getD j aR).words.toNat (0 : Int)))]] ([List.replicate (p.mems.getD j aR).words.toNat (0 : Int)].map af)∧((an (fun z => List.replicate (p.mems.getD z aR).words.toNat (0 : Int)) j).length + ([List.replicate (p.mems.getD j aR).words.toNat (0 : Int)].map af).length ≤ 137438953472∧(an (fun z => List.replicate (p.mems.getD z aR).words.toNat (0 : Int)) j).map af ++ [List.replicate (p.mems.getD j aR).words.toNat (0 : Int)].map af = (an (fun z => List.replicate (p.mems.getD z aR).words.toNat (0 : Int)) (j + 1)).map af)∧TT 3 (W6 ((j + 1 : Nat) : Int)∧TT 1 (AG (mE p i) j (j + 1)))))) (TT 3 ((an (fun z => (p.regs.getD z bG).init) i).map (ah .i64) = ((aX p).regs).map (ah .i64)∧(an (fun z => List.replicate (p.mems.getD z aR).words.toNat (0 : Int)) j).map af = ((aX p).mems).map af∧True)))))))))) (.g 2 2 0 3 1 (ah .i64) 0 <| .l (mD p) 0 (fun i => .b 11 (.w 5 [(8,.box 3 1 (ah .i64) 0 [(p.regs.getD i bG).init]),(9,.box 3 1 (ah .i64) 0 (an (fun z => (p.regs.getD z bG).init) (i + 1)))] <| .w 4 [(1,.val (i6 ((i + 1 : Nat) : Int)))] <| .e) (.g 6 2 1 43 1 af [] <| .l (mE p i) 0 (fun j => .b 29 (.w 9 [(8,.frz 3 1 (ah .i64) 0 (List.replicate (p.mems.getD j aR).words.toNat (0 : Int))),(9,.box 43 1 af [] [List.replicate (p.mems.getD j aR).words.toNat (0 : Int)]),(10,.box 43 1 af [] (an (fun z => List.replicate (p.mems.getD z aR).words.toNat (0 : Int)) (j + 1)))] <| .w 8 [(1,.val (i6 ((j + 1 : Nat) : Int)))] <| .e) (.e))))) Tryz.func59 rfl rfl rfl (by kernel_rfl) ?_
 refine tt ⟨rfl,(by omega),?_⟩
 intro i hinv
 have hi := hinv
 refine tt (cd (fun hc11 => ?_) (fun hc11 => ?_))
 · refine tt ⟨ix,tt ⟨⟨⟨rfl,oK⟩,oK⟩,⟨(gW (f := fun z => (p.regs.getD z bG).init) (by omega)),tt ⟨w6,tt ⟨(i + 1),rfl,(?_ : (i + 1) ≤ p.regs.length),(?_ : p.regs.length - (i + 1) < p.regs.length - i)⟩⟩⟩⟩⟩
   · omega
   · omega
 · refine tt ⟨rfl,(by omega),?_⟩
   intro j hinv
   have hj := hinv
   refine tt (cd (fun hc29 => ?_) (fun hc29 => ?_))
   · have hmw : 1 ≤ (p.mems.getD j aR).words∧(p.mems.getD j aR).words ≤ 4 := (hp.mw j (by omega)).2.1
     refine tt ⟨ix,tt ⟨⟨by omega,List.length_replicate,fun x hx => by rw [List.eq_of_mem_replicate hx]; exact ⟨rfl,oK⟩⟩,⟨⟨⟨rfl,oK⟩,oK⟩,⟨(gW (f := fun z => List.replicate (p.mems.getD z aR).words.toNat (0 : Int)) (by omega)),tt ⟨w6,tt ⟨(j + 1),rfl,(?_ : (j + 1) ≤ p.mems.length),(?_ : p.mems.length - (j + 1) < p.mems.length - j)⟩⟩⟩⟩⟩⟩
     · omega
     · omega
   · refine tt ⟨(congrArg _ (?_ : (an (fun z => (p.regs.getD z bG).init) i) = ((aX p).regs))),(congrArg _ (?_ : (an (fun z => List.replicate (p.mems.getD z aR).words.toNat (0 : Int)) j) = ((aX p).mems))),oK⟩
     · rw [pm,show i = p.regs.length by omega]
     · rw [pm,show j = p.mems.length by omega]
abbrev xz (p : Pr) (s : Ps) (data : List Int) (n : Nat) (e : Ex) : Ct := ⟨77,[(DY p s data),(.agg [(i6 e.op),(dS e.name),(i6 e.k.n),(dS e.k.p),(i6 e.w.n),(dS e.w.p),(dL 7 (eA n) dE e.args)])],false,(.agg [(i6 ((bc p s data e).1)),(i6 ((bc p s data e).2))])⟩
abbrev rI (p : Pr) (s : Ps) (data : List Int) (n : Nat) (e : Ex) : Lp (Nat) := gJ [2,3,4,7,8,9] 5 (fun (i : Nat) => ⟨[(2,jb),(3,(.ptr 1 0 0 0)),(4,(.ptr 2 0 0 0)),(7,(.own 3)),(8,(.own 4)),(9,(i6 (i : Int)))],[(DX p s data),(.var 62 [(i6 e.op),(dS e.name),(i6 e.k.n),(dS e.k.p),(i6 e.w.n),(dS e.w.p),(dL 7 (eA (n + 1)) dE e.args)]),(.var 161 [(i6 0),(i6 0)]),(.arr 3 1 (ah .i64) 0 (eE p s data (e.args.take i))),(.arr 3 1 (ah .i64) 0 (c6 p s data (e.args.take i)))]⟩) (fun (i : Nat) => i ≤ e.args.length) (fun (i : Nat) => e.args.length - i)
theorem AD (p : Pr) (s : Ps) (data : List Int) (n : Nat) (e : Ex) (c : Sc) (v : Int) (ho : qu c p s data) (ht : eH c e = some v) (hmw : ∀ i,i < p.mems.length → ((s.mems.getD i []).length : Int) = (p.mems.getD i aR).words) (ih : ∀ a ∈ e.args,CC (xz p s data n a)) : CC (xz p s data (n + 1) e) := by
 have hal := C7 ht
 refine ak.vc (V := TT 7 (CD (e.op = 16) (TT 6 (IX e.k.n s.regs.length∧TT 7 (IX e.k.n p.regs.length∧TT 5 ((((s.regs.getD e.k.n.toNat 0) = ((bc p s data e).1)∧((p.regs.getD e.k.n.toNat bG).w) = ((bc p s data e).2)∧True))∧((True∧True∧True)))))) (TT 2 (CD (e.op = 17) (TT 6 (IX e.k.n p.mems.length∧TT 6 (IX 0 e.args.length∧TT 1 (CC (xz p s data n (e.args.getD 0 dE))∧TT 8 (IX e.k.n s.mems.length∧TT 5 ((((p.mems.getD e.k.n.toNat aR).words) ≠ 0∧(Int.tmod ((bc p s data (e.args.getD 0 dE)).1) ((p.mems.getD e.k.n.toNat aR).words)) = (Int.tmod (bc p s data (e.args.getD 0 dE)).1 ((s.mems.getD e.k.n.toNat []).length : Int)))∧IX (Int.tmod (bc p s data (e.args.getD 0 dE)).1 ((s.mems.getD e.k.n.toNat []).length : Int)) ((s.mems.getD e.k.n.toNat []).length)∧TT 6 (((((s.mems.getD e.k.n.toNat []).getD ((Int.tmod (bc p s data (e.args.getD 0 dE)).1 ((s.mems.getD e.k.n.toNat []).length : Int)).toNat) 0) = ((bc p s data e).1)∧((p.mems.getD e.k.n.toNat aR).w) = ((bc p s data e).2)∧True))∧((True∧True∧True))))))))) (TT 2 (CD (e.op = 18) (TT 5 (IX e.k.n data.length∧TT 7 (IX e.k.n p.takes.length∧TT 5 ((((data.getD e.k.n.toNat 0) = ((bc p s data e).1)∧((p.takes.getD e.k.n.toNat bq).w) = ((bc p s data e).2)∧True))∧((True∧True∧True)))))) (ap [] ((eE p s data (e.args.take 0)).map (ah .i64))∧ap [] ((c6 p s data (e.args.take 0)).map (ah .i64))∧TT 3 (GO (rI p s data n e) 0 (∀ i,(rI p s data n e).inv i → TT 5 (CD ((i : Int) < (e.args.length : Int)) (TT 4 (IX (i : Int) e.args.length∧TT 1 (CC (xz p s data n (e.args.getD i dE))∧TT 5 (ap [[(i6 ((bc p s data (e.args.getD i dE)).1))]] ([(bc p s data (e.args.getD i dE)).1].map (ah .i64))∧((eE p s data (e.args.take i)).length + ([(bc p s data (e.args.getD i dE)).1].map (ah .i64)).length ≤ 137438953472∧(eE p s data (e.args.take i)).map (ah .i64) ++ [(bc p s data (e.args.getD i dE)).1].map (ah .i64) = (eE p s data (e.args.take (i + 1))).map (ah .i64))∧TT 4 (ap [[(i6 ((bc p s data (e.args.getD i dE)).2))]] ([(bc p s data (e.args.getD i dE)).2].map (ah .i64))∧((c6 p s data (e.args.take i)).length + ([(bc p s data (e.args.getD i dE)).2].map (ah .i64)).length ≤ 137438953472∧(c6 p s data (e.args.take i)).map (ah .i64) ++ [(bc p s data (e.args.getD i dE)).2].map (ah .i64) = (c6 p s data (e.args.take (i + 1))).map (ah .i64))∧TT 2 (W6 ((i + 1 : Nat) : Int)∧TT 1 (AG (rI p s data n e) i (i + 1)))))))) (TT 10 (CK (HQ e.op (c6 p s data (e.args.take i)) e.k.n e.w.n)∧TT 12 (ap [[(i6 e.k.n)],[(i6 e.w.n)]] ([e.k.n,e.w.n].map (ah .i64))∧TT 1 (CK (Jj e.op (c6 p s data (e.args.take i)) (eE p s data (e.args.take i)) [e.k.n,e.w.n])∧TT 9 ((((cA e.op (c6 p s data (e.args.take i)) (eE p s data (e.args.take i)) [e.k.n,e.w.n]) = ((bc p s data e).1)∧(bS e.op (c6 p s data (e.args.take i)) e.k.n e.w.n) = ((bc p s data e).2)∧True))∧((True∧True∧True))))))))))))))))) (.b 15 (.e) (.b 35 (.w 6 [(5,(xz p s data n (e.args.getD 0 dE)).O)] <| .w 7 [(12,.val (i6 (Int.tmod (bc p s data (e.args.getD 0 dE)).1 ((s.mems.getD e.k.n.toNat []).length : Int))))] <| .e) (.b 69 (.e) (.w 10 [(0,.box 3 1 (ah .i64) 0 (eE p s data (e.args.take 0))),(1,.box 3 1 (ah .i64) 0 (c6 p s data (e.args.take 0)))] <| .l (rI p s data n e) 0 (fun i => .b 94 (.w 14 [(6,(xz p s data n (e.args.getD i dE)).O)] <| .w 15 [(3,.box 3 1 (ah .i64) 0 [(bc p s data (e.args.getD i dE)).1]),(4,.box 3 1 (ah .i64) 0 (eE p s data (e.args.take (i + 1))))] <| .w 16 [(3,.box 3 1 (ah .i64) 0 [(bc p s data (e.args.getD i dE)).2]),(4,.box 3 1 (ah .i64) 0 (c6 p s data (e.args.take (i + 1))))] <| .w 13 [(1,.val (i6 ((i + 1 : Nat) : Int)))] <| .e) (.w 17 [(10,(HQ e.op (c6 p s data (e.args.take i)) e.k.n e.w.n).O')] <| .w 18 [(10,.box 3 1 (ah .i64) 0 [e.k.n,e.w.n]),(12,(Jj e.op (c6 p s data (e.args.take i)) (eE p s data (e.args.take i)) [e.k.n,e.w.n]).O')] <| .e)))))) Tryz.func77 rfl rfl rfl (by kernel_rfl) ?_
 refine tt (cd (fun hc15 => ?_) (fun hc15 => ?_))
 · obtain ⟨h1,h2,h3⟩ := C8 ho ht hc15
   refine tt ⟨ix,tt ⟨ix,tt ⟨⟨?_,?_,oK⟩,⟨oK,oK,oK⟩⟩⟩⟩
   all_goals (first | exact (eD hc15).1.symm | exact (eD hc15).2.symm | exact (dc hc69).1.symm | exact (dc hc69).2.symm | exact (de hc35 hlen).1.symm | exact (de hc35 hlen).2.symm | (rw [hie,List.take_length]; exact (gK hc15 hc69 hc35).1.symm) | (rw [hie,List.take_length]; exact (gK hc15 hc69 hc35).2.symm))
 · refine tt (cd (fun hc35 => ?_) (fun hc35 => ?_))
   · obtain ⟨h1,h2,h3,hlen,h4,h5,h6⟩ := zV ho ht hc35
     have hpw : (p.mems.getD e.k.n.toNat aR).words = ((s.mems.getD e.k.n.toNat []).length : Int) := (hmw _ (by omega)).symm
     have hz : (s.mems.getD e.k.n.toNat []).length ≠ 0 := by omega
     refine tt ⟨ix,tt ⟨ix,tt ⟨(ih _ (hE (by omega))),tt ⟨ix,tt ⟨⟨(by omega),(by rw [hpw])⟩,⟨ix,tt ⟨⟨?_,?_,oK⟩,⟨oK,oK,oK⟩⟩⟩⟩⟩⟩⟩⟩
     all_goals (first | exact (eD hc15).1.symm | exact (eD hc15).2.symm | exact (dc hc69).1.symm | exact (dc hc69).2.symm | exact (de hc35 hlen).1.symm | exact (de hc35 hlen).2.symm | (rw [hie,List.take_length]; exact (gK hc15 hc69 hc35).1.symm) | (rw [hie,List.take_length]; exact (gK hc15 hc69 hc35).2.symm))
   · refine tt (cd (fun hc69 => ?_) (fun hc69 => ?_))
     · obtain ⟨h1,h2,h3⟩ := zU ho ht hc69
       refine tt ⟨ix,tt ⟨ix,tt ⟨⟨?_,?_,oK⟩,⟨oK,oK,oK⟩⟩⟩⟩
       all_goals (first | exact (eD hc15).1.symm | exact (eD hc15).2.symm | exact (dc hc69).1.symm | exact (dc hc69).2.symm | exact (de hc35 hlen).1.symm | exact (de hc35 hlen).2.symm | (rw [hie,List.take_length]; exact (gK hc15 hc69 hc35).1.symm) | (rw [hie,List.take_length]; exact (gK hc15 hc69 hc35).2.symm))
     · refine ⟨oK,⟨oK,tt ⟨rfl,(by omega),?_⟩⟩⟩
       intro i hinv
       have hi := hinv
       refine tt (cd (fun hc94 => ?_) (fun hc94 => ?_))
       · refine tt ⟨ix,tt ⟨(ih _ (hE (by omega))),tt ⟨⟨⟨rfl,oK⟩,oK⟩,⟨⟨by simp only [List.length_map,List.length_cons,List.length_nil]; rw [sD,List.length_take]; omega,by rw [ud (by omega),List.map_append]⟩,tt ⟨⟨⟨rfl,oK⟩,oK⟩,⟨⟨by simp only [List.length_map,List.length_cons,List.length_nil]; rw [pb,List.length_take]; omega,by rw [ue (by omega),List.map_append]⟩,tt ⟨w6,tt ⟨(i + 1),rfl,(?_ : (i + 1) ≤ e.args.length),(?_ : e.args.length - (i + 1) < e.args.length - i)⟩⟩⟩⟩⟩⟩⟩⟩
         · omega
         · omega
       · have hie : i = e.args.length := by omega
         have hev := Dn ho ht hc15 hc35 hc69
         have hev1 : gj e.op (c6 p s data (e.args.take i)) e.k.n e.w.n = true := by rw [hie,List.take_length]; exact hev.1
         have hev2 : wT (c6 p s data (e.args.take i)) (eE p s data (e.args.take i)) = true := by rw [hie,List.take_length]; exact hev.2
         refine tt ⟨⟨c5 _ rfl,(s8 e.op (c6 p s data (e.args.take i)) e.k.n e.w.n hev1)⟩,tt ⟨⟨⟨rfl,oK⟩,⟨rfl,oK⟩,oK⟩,tt ⟨⟨c5 _ rfl,(zd e.op (c6 p s data (e.args.take i)) (eE p s data (e.args.take i)) [e.k.n,e.w.n] hev1 (by rw [sD,pb]) hev2 rfl)⟩,tt ⟨⟨?_,?_,oK⟩,⟨oK,oK,oK⟩⟩⟩⟩⟩
         all_goals (first | exact (eD hc15).1.symm | exact (eD hc15).2.symm | exact (dc hc69).1.symm | exact (dc hc69).2.symm | exact (de hc35 hlen).1.symm | exact (de hc35 hlen).2.symm | (rw [hie,List.take_length]; exact (gK hc15 hc69 hc35).1.symm) | (rw [hie,List.take_length]; exact (gK hc15 hc69 hc35).2.symm))
theorem jK {c : Sc} {p : Pr} {s : Ps} {data : List Int} (ho : qu c p s data) (hmw : ∀ i,i < p.mems.length → ((s.mems.getD i []).length : Int) = (p.mems.getD i aR).words) : ∀ (n : Nat) (e : Ex) (v : Int),eH c e = some v → fq e ≤ n + 1 → CC (xz p s data n e)
  | 0,e,v,ht,hd => by
    have ha : e.args = [] := by
      cases hl : e.args with
      | nil => rfl
      | cons a r =>
        have := rA (e := e) (a := a) (by rw [hl]; simp)
        cases a with | mk op name k w args => rw [fq] at this; omega
    have h := AD p s data 0 e c v ho ht hmw (fun a h => by rw [ha] at h; cases h)
    refine ak.recast ?_ h
    refine ⟨sv _ rfl,⟨rfl,rfl,rfl,rfl,rfl,rfl,?_,oK⟩,oK⟩
    show e.args.map (eA 0) = e.args.map (eA 1)
    rw [ha]; rfl
  | n + 1,e,v,ht,hd => AD p s data n e c v ho ht hmw (fun a h => by
    obtain ⟨w,hw⟩ := C6 ht h
    exact jK ho hmw n a w hw (by have := rA h; omega))
abbrev ze (p : Pr) (s : Ps) (data : List Int) (e : Ex) : Ct := ⟨75,[(DY p s data),(.agg [(i6 e.op),(dS e.name),(i6 e.k.n),(dS e.k.p),(i6 e.w.n),(dS e.w.p),(dL 7 (eA 2) dE e.args)])],false,(dB (dW p s data e))⟩
theorem s9 (p : Pr) (s : Ps) (data : List Int) (e : Ex) {c : Sc} {v : Int} (ho : qu c p s data) (hmw : ∀ i,i < p.mems.length → ((s.mems.getD i []).length : Int) = (p.mems.getD i aR).words) (ht : eH c e = some v) (hd : fq e ≤ 3) : CC (ze p s data e) := by
 refine ak.vc (V := TT 5 (CC (xz p s data 2 e)∧TT 4 ((((bc p s data e).1) == 1) = (dW p s data e)∧True))) (.w 1 [(2,(xz p s data 2 e).O)] <| .e) Tryz.func75 rfl rfl rfl (by kernel_rfl) ?_
 refine tt ⟨(jK ho hmw 2 e _ ht hd),tt ⟨?_,oK⟩⟩
 rfl
abbrev Jm (p : Pr) (s : Ps) (hs : List Hd) (rs : List Bool) : Ct := ⟨74,[(AB p),(.agg (lJ s)),(.agg [(dL 2 bj aG hs),(LB rs)])],true,(.agg [(dS p.name),(dS p.clock),(dL 13 jj bG p.regs),(dL 27 qt aR p.mems),(dL 9 iK bq p.takes),(dL 16 fe a5 p.puts),(LI s.regs),(dL 1 af [] s.mems),(LI (bV p s hs))])⟩
abbrev f4 (p : Pr) (s : Ps) (hs : List Hd) (rs : List Bool) : Lp (Nat × List Int) := kL [3,5,6,7,8,9] 20 (fun (i : Nat) (dat : List Int) => ⟨[(3,jb),(5,(.ptr 2 0 0 0)),(6,(.ptr 3 0 0 0)),(7,(.ptr 11 0 0 0)),(8,(.ptr 19 0 0 0)),(9,(i6 (i : Int)))],[(nj p),(.var 45 (lJ s)),(.var 121 [(dL 2 bj aG hs),(LB rs)]),(.var 156 [(dS e0),(dS e0),.nils,.nils,.nils,.nils,.nils,.nils,.nils]),.dead,.dead,.dead,.dead,.dead,.dead,.dead,(.var 156 [(dS p.name),(dS p.clock),(dL 13 jj bG p.regs),(dL 27 qt aR p.mems),(dL 9 iK bq p.takes),(dL 16 fe a5 p.puts),(LI s.regs),(dL 1 af [] s.mems),(LI (iL p))]),.dead,.dead,.dead,.dead,.dead,(.arr 3 1 (ah .i64) 0 dat),.dead,(.var 156 [(dS p.name),(dS p.clock),(dL 13 jj bG p.regs),(dL 27 qt aR p.mems),(dL 9 iK bq p.takes),(dL 16 fe a5 p.puts),(LI s.regs),(dL 1 af [] s.mems),(.own 17)])]⟩) (fun (i : Nat) (dat : List Int) => i ≤ p.takes.length∧dat = b7 (lu p s hs) (iL p) i) (fun (i : Nat) (dat : List Int) => p.takes.length - i)
theorem zf (p : Pr) (s : Ps) (hs : List Hd) (rs : List Bool) (hp : fS p) (hso : nQ p s) (hh : w4 p hs) : CC (Jm p s hs rs) := by
 have ht1 := hp.tl
 have ht2 := hp.pl
 have hhl := hh.l
 have hmw := hso.mn
 have ho := gm hp hso (FM hp)
 refine ak.vc (V := TT 9 ((((0 : Int) ≤ (p.takes.length : Int)∧(p.takes.length : Int) ≤ (p.takes.length : Int)∧(p.takes.length : Int) ≤ 137438953472)∧(iL p).length = p.takes.length∧∀ x ∈ (iL p),cG [(i6 0)] ((ah .i64) x))∧TT 8 ((((0 : Int) ≤ (p.takes.length : Int)∧(p.takes.length : Int) ≤ (p.takes.length : Int)∧(p.takes.length : Int) ≤ 137438953472)∧(iL p).length = p.takes.length∧∀ x ∈ (iL p),cG [(i6 0)] ((ah .i64) x))∧TT 4 (GO (f4 p s hs rs) (0,iL p) (∀ i dat,(f4 p s hs rs).inv (i,dat) → TT 5 (CD ((i : Int) < (p.takes.length : Int)) (CS ((dW p s (iL p) ((p.takes.getD i bq).when)) = true) (TT 4 (IX (i : Int) p.takes.length∧TT 2 (CC (ze p s (iL p) ((p.takes.getD i bq).when))∧(True∧(dW p s (iL p) ((p.takes.getD i bq).when)) = true)∧TT 3 (IX (i : Int) hs.length∧TT 3 (CB ((hs.getD i aG).has) (TT 6 (IX (i : Int) hs.length∧TT 2 (IX (i : Int) dat.length∧(i < dat.length∧(dat.map (ah .i64)).set i (((ah .i64) (dat.getD i 0)).take 0 ++ [(.int .i64 ((hs.getD i aG).v))] ++ ((ah .i64) (dat.getD i 0)).drop (0 + 1)) = (dat.set i ((hs.getD i aG).v)).map (ah .i64))∧TT 1 (W6 ((i + 1 : Nat) : Int)∧TT 1 (AG (f4 p s hs rs) (i,dat) (i + 1,dat.set i ((hs.getD i aG).v))))))) (TT 1 (W6 ((i + 1 : Nat) : Int)∧TT 1 (AG (f4 p s hs rs) (i,dat) (i + 1,dat))))))))) (TT 4 (IX (i : Int) p.takes.length∧TT 2 (CC (ze p s (iL p) ((p.takes.getD i bq).when))∧(True∧(dW p s (iL p) ((p.takes.getD i bq).when)) = false)∧TT 2 (W6 ((i + 1 : Nat) : Int)∧TT 1 (AG (f4 p s hs rs) (i,dat) (i + 1,dat))))))) (TT 3 (p.name = p.name∧p.clock = p.clock∧p.regs.map jj = p.regs.map jj∧p.mems.map qt = p.mems.map qt∧p.takes.map iK = p.takes.map iK∧p.puts.map fe = p.puts.map fe∧s.regs.map (ah .i64) = s.regs.map (ah .i64)∧s.mems.map af = s.mems.map af∧dat.map (ah .i64) = (bV p s hs).map (ah .i64)∧True)))))))) (.w 1 [(5,.frz 3 1 (ah .i64) 0 (iL p))] <| .w 2 [(5,.box 3 1 (ah .i64) 0 (iL p))] <| .l (f4 p s hs rs) (0,iL p) (fun ⟨i,dat⟩ => .b 28 (.s 6 ((dW p s (iL p) ((p.takes.getD i bq).when)) = true) (.w 6 [(7,(ze p s (iL p) ((p.takes.getD i bq).when)).O),(8,.val (dB true))] <| .b 46 (.w 7 [(10,.box 3 1 (ah .i64) 0 (dat.set i ((hs.getD i aG).v)))] <| .w 5 [(1,.val (i6 ((i + 1 : Nat) : Int)))] <| .e) (.w 5 [(1,.val (i6 ((i + 1 : Nat) : Int)))] <| .e)) (.w 6 [(7,(ze p s (iL p) ((p.takes.getD i bq).when)).O),(8,.val (dB false))] <| .w 5 [(1,.val (i6 ((i + 1 : Nat) : Int)))] <| .e)) (.e))) Tryz.func74 rfl rfl rfl (by kernel_rfl) ?_
 refine tt ⟨⟨by omega,d5,fun x hx => by rw [List.eq_of_mem_replicate hx]; exact ⟨rfl,oK⟩⟩,tt ⟨⟨by omega,d5,fun x hx => by rw [List.eq_of_mem_replicate hx]; exact ⟨rfl,oK⟩⟩,tt ⟨rfl,⟨by omega,rfl⟩,?_⟩⟩⟩
 intro i dat hinv
 obtain ⟨hi,hdat⟩ := hinv
 have hdl : dat.length = p.takes.length := by rw [hdat,c7 (by rw [d5]; exact hi),d5]
 refine tt (cd (fun hc28 => ?_) (fun hc28 => ?_))
 · have hwh := rC hp (show i < p.takes.length by omega)
   refine ⟨fun hs0 => ?_,fun hs0 => ?_⟩
   · refine tt ⟨ix,tt ⟨(s9 p s (iL p) ((p.takes.getD i bq).when) ho hmw hwh.1 hwh.2),⟨(bT hs0),tt ⟨ix,tt ⟨fun hc46 => ?_,fun hc46 => ?_⟩⟩⟩⟩⟩
     · refine tt ⟨ix,tt ⟨ix,⟨⟨om,by simp only [List.map_set]; rfl⟩,tt ⟨w6,tt ⟨(i + 1,dat.set i ((hs.getD i aG).v)),rfl,?_,(?_ : p.takes.length - (i + 1) < p.takes.length - i)⟩⟩⟩⟩⟩
       · exact ⟨by omega,by rw [hdat]; exact bK (by rw [d5]; omega) (E4 hs0 hc46)⟩
       · omega
     · refine tt ⟨w6,tt ⟨(i + 1,dat),rfl,?_,(?_ : p.takes.length - (i + 1) < p.takes.length - i)⟩⟩
       · exact ⟨by omega,by rw [hdat]; exact bD (by rw [d5]; omega) (by first | exact z9 (by assumption) | exact Aa (by rw [hc46]; simp))⟩
       · omega
   · refine tt ⟨ix,tt ⟨(s9 p s (iL p) ((p.takes.getD i bq).when) ho hmw hwh.1 hwh.2),⟨(bF hs0),tt ⟨w6,tt ⟨(i + 1,dat),rfl,?_,(?_ : p.takes.length - (i + 1) < p.takes.length - i)⟩⟩⟩⟩⟩
     · exact ⟨by omega,by rw [hdat]; exact bD (by rw [d5]; omega) (by first | exact z9 (by assumption) | exact Aa (by rw [hc46]; simp))⟩
     · omega
 · refine tt ⟨rfl,rfl,rfl,rfl,rfl,rfl,rfl,rfl,(congrArg _ (?_ : dat = (bV p s hs))),oK⟩
   rw [hdat,show i = p.takes.length by omega,cK (by rw [d5]; exact Nat.le_refl _)]; rfl
abbrev Jn (p : Pr) (s : Ps) (data : List Int) : Ct := ⟨76,[(DY p s data)],true,(.agg [(LI ((co p s data).regs)),(dL 1 af [] ((co p s data).mems))])⟩
abbrev pJ (p : Pr) (s : Ps) (data : List Int) : Lp (Nat) := gJ [1,2,3,4] 4 (fun (i : Nat) => ⟨[(1,jb),(2,(.ptr 1 0 0 0)),(3,(.ptr 2 0 0 0)),(4,(i6 (i : Int)))],[(DX p s data),(.var 45 [.nils,.nils]),(.var 45 [(.own 3),.nils]),(.arr 3 1 (ah .i64) 0 (an (fun z => (bc p s data (p.regs.getD z bG).next).1) i))]⟩) (fun (i : Nat) => i ≤ p.regs.length) (fun (i : Nat) => p.regs.length - i)
abbrev lK (p : Pr) (s : Ps) (data : List Int) (i : Nat) : Lp (Nat) := gJ [1,2,3,5] 5 (fun (j : Nat) => ⟨[(1,jb),(2,(.ptr 1 0 0 0)),(3,(.ptr 2 0 0 0)),(5,(i6 (j : Int)))],[(DX p s data),(.var 45 [.nils,.nils]),(.var 45 [(.own 3),(.own 4)]),(.arr 3 1 (ah .i64) 0 (an (fun z => (bc p s data (p.regs.getD z bG).next).1) i)),(.arr 43 1 af [] (an (pU p s data) j))]⟩) (fun (j : Nat) => j ≤ p.mems.length) (fun (j : Nat) => p.mems.length - j)
theorem DZ (p : Pr) (s : Ps) (data : List Int) (hp : fS p) (hso : nQ p s) (hda : w3 p data) : CC (Jn p s data) := by
 have hl1 := hp.rl
 have hl2 := hp.ml
 have hmw := hso.mn
 have ho := gm hp hso hda
 have hsl := hso.ml
 refine ak.vc (V := TT 6 (GO (pJ p s data) 0 (∀ i,(pJ p s data).inv i → TT 6 (CD ((i : Int) < (p.regs.length : Int)) (TT 7 (IX (i : Int) p.regs.length∧TT 2 (CC (xz p s data 2 ((p.regs.getD i bG).next))∧TT 1 (ap [[(i6 ((bc p s data ((p.regs.getD i bG).next)).1))]] ([(bc p s data ((p.regs.getD i bG).next)).1].map (ah .i64))∧((an (fun z => (bc p s data (p.regs.getD z bG).next).1) i).length + ([(bc p s data ((p.regs.getD i bG).next)).1].map (ah .i64)).length ≤ 137438953472∧(an (fun z => (bc p s data (p.regs.getD z bG).next).1) i).map (ah .i64) ++ [(bc p s data ((p.regs.getD i bG).next)).1].map (ah .i64) = (an (fun z => (bc p s data (p.regs.getD z bG).next).1) (i + 1)).map (ah .i64))∧TT 3 (W6 ((i + 1 : Nat) : Int)∧TT 1 (AG (pJ p s data) i (i + 1))))))) (TT 1 (GO (lK p s data i) 0 (∀ j,(lK p s data i).inv j → TT 6 (CD ((j : Int) < (p.mems.length : Int)) (TT 4 (IX (j : Int) p.mems.length∧TT 3 (ap [] (([] : List Int).map (ah .i64))∧TT 4 (IX (j : Int) s.mems.length∧TT 1 ((([] : List Int).length + ((s.mems.getD j []).map (ah .i64)).length ≤ 137438953472∧([] : List Int).map (ah .i64) ++ (s.mems.getD j []).map (ah .i64) = (s.mems.getD j []).map (ah .i64))∧TT 4 (CC (ze p s data ((p.mems.getD j aR).enable))∧CB (dW p s data ((p.mems.getD j aR).enable)) (TT 4 (CC (xz p s data 2 ((p.mems.getD j aR).addr))∧TT 3 (((p.mems.getD j aR).words) ≠ 0∧TT 3 (CC (xz p s data 2 ((p.mems.getD j aR).data))∧TT 1 (IX (Int.tmod ((bc p s data ((p.mems.getD j aR).addr)).1) ((p.mems.getD j aR).words)) ((s.mems.getD j []).length)∧((Int.tmod ((bc p s data ((p.mems.getD j aR).addr)).1) ((p.mems.getD j aR).words)).toNat < (s.mems.getD j []).length∧((s.mems.getD j []).map (ah .i64)).set ((Int.tmod ((bc p s data ((p.mems.getD j aR).addr)).1) ((p.mems.getD j aR).words)).toNat) (((ah .i64) ((s.mems.getD j []).getD ((Int.tmod ((bc p s data ((p.mems.getD j aR).addr)).1) ((p.mems.getD j aR).words)).toNat) 0)).take 0 ++ [(.int .i64 ((bc p s data ((p.mems.getD j aR).data)).1))] ++ ((ah .i64) ((s.mems.getD j []).getD ((Int.tmod ((bc p s data ((p.mems.getD j aR).addr)).1) ((p.mems.getD j aR).words)).toNat) 0)).drop (0 + 1)) = ((s.mems.getD j []).set ((Int.tmod ((bc p s data ((p.mems.getD j aR).addr)).1) ((p.mems.getD j aR).words)).toNat) ((bc p s data ((p.mems.getD j aR).data)).1)).map (ah .i64))∧TT 3 (ap [[(LI ((s.mems.getD j []).set ((Int.tmod ((bc p s data ((p.mems.getD j aR).addr)).1) ((p.mems.getD j aR).words)).toNat) ((bc p s data ((p.mems.getD j aR).data)).1)))]] ([(s.mems.getD j []).set ((Int.tmod ((bc p s data ((p.mems.getD j aR).addr)).1) ((p.mems.getD j aR).words)).toNat) ((bc p s data ((p.mems.getD j aR).data)).1)].map af)∧((an (pU p s data) j).length + ([(s.mems.getD j []).set ((Int.tmod ((bc p s data ((p.mems.getD j aR).addr)).1) ((p.mems.getD j aR).words)).toNat) ((bc p s data ((p.mems.getD j aR).data)).1)].map af).length ≤ 137438953472∧(an (pU p s data) j).map af ++ [(s.mems.getD j []).set ((Int.tmod ((bc p s data ((p.mems.getD j aR).addr)).1) ((p.mems.getD j aR).words)).toNat) ((bc p s data ((p.mems.getD j aR).data)).1)].map af = (an (pU p s data) (j + 1)).map af)∧TT 3 (W6 ((j + 1 : Nat) : Int)∧TT 1 (AG (lK p s data i) j (j + 1))))))))) (TT 3 (ap [[(LI (s.mems.getD j []))]] ([s.mems.getD j []].map af)∧((an (pU p s data) j).length + ([s.mems.getD j []].map af).length ≤ 137438953472∧(an (pU p s data) j).map af ++ [s.mems.getD j []].map af = (an (pU p s data) (j + 1)).map af)∧TT 3 (W6 ((j + 1 : Nat) : Int)∧TT 1 (AG (lK p s data i) j (j + 1))))))))))) (TT 3 ((an (fun z => (bc p s data (p.regs.getD z bG).next).1) i).map (ah .i64) = ((co p s data).regs).map (ah .i64)∧(an (pU p s data) j).map af = ((co p s data).mems).map af∧True)))))))))) (.g 2 2 0 3 1 (ah .i64) 0 <| .l (pJ p s data) 0 (fun i => .b 14 (.w 5 [(10,(xz p s data 2 ((p.regs.getD i bG).next)).O),(12,.box 3 1 (ah .i64) 0 [(bc p s data ((p.regs.getD i bG).next)).1]),(13,.box 3 1 (ah .i64) 0 (an (fun z => (bc p s data (p.regs.getD z bG).next).1) (i + 1)))] <| .w 4 [(1,.val (i6 ((i + 1 : Nat) : Int)))] <| .e) (.g 6 2 1 43 1 af [] <| .l (lK p s data i) 0 (fun j => .b 37 (.w 10 [(0,.box 3 1 (ah .i64) 0 ([] : List Int)),(7,.box 3 1 (ah .i64) 0 (s.mems.getD j []))] <| .w 11 [(3,(ze p s data ((p.mems.getD j aR).enable)).O)] <| .b 57 (.w 12 [(4,(xz p s data 2 ((p.mems.getD j aR).addr)).O),(12,(xz p s data 2 ((p.mems.getD j aR).data)).O),(15,.box 3 1 (ah .i64) 0 ((s.mems.getD j []).set ((Int.tmod ((bc p s data ((p.mems.getD j aR).addr)).1) ((p.mems.getD j aR).words)).toNat) ((bc p s data ((p.mems.getD j aR).data)).1)))] <| .f 13 6 <| .w 13 [(3,.box 43 1 af [] [(s.mems.getD j []).set ((Int.tmod ((bc p s data ((p.mems.getD j aR).addr)).1) ((p.mems.getD j aR).words)).toNat) ((bc p s data ((p.mems.getD j aR).data)).1)]),(4,.box 43 1 af [] (an (pU p s data) (j + 1)))] <| .w 8 [(1,.val (i6 ((j + 1 : Nat) : Int)))] <| .e) (.f 13 6 <| .w 13 [(3,.box 43 1 af [] [s.mems.getD j []]),(4,.box 43 1 af [] (an (pU p s data) (j + 1)))] <| .w 8 [(1,.val (i6 ((j + 1 : Nat) : Int)))] <| .e)) (.e))))) Tryz.func76 rfl rfl rfl (by kernel_rfl) ?_
 refine tt ⟨rfl,(by omega),?_⟩
 intro i hinv
 have hi := hinv
 refine tt (cd (fun hc14 => ?_) (fun hc14 => ?_))
 · have hrn := hp.rw i (by omega)
   refine tt ⟨ix,tt ⟨(jK ho hmw 2 ((p.regs.getD i bG).next) _ hrn.2.2.1 hrn.2.2.2),tt ⟨⟨⟨rfl,oK⟩,oK⟩,⟨(gW (f := fun z => (bc p s data (p.regs.getD z bG).next).1) (by omega)),tt ⟨w6,tt ⟨(i + 1),rfl,(?_ : (i + 1) ≤ p.regs.length),(?_ : p.regs.length - (i + 1) < p.regs.length - i)⟩⟩⟩⟩⟩⟩
   · omega
   · omega
 · refine tt ⟨rfl,(by omega),?_⟩
   intro j hinv
   have hj := hinv
   refine tt (cd (fun hc37 => ?_) (fun hc37 => ?_))
   · have hmz : 1 ≤ (p.mems.getD j aR).words∧(p.mems.getD j aR).words ≤ 4 := (hp.mw j (by omega)).2.1
     have hml : ((s.mems.getD j []).length : Int) = (p.mems.getD j aR).words := hso.mn j (by omega)
     have hme := (hp.mw j (by omega)).2.2.1
     have hmb := (hp.mw j (by omega)).2.2.2
     obtain ⟨va,hma⟩ := hmb.1.1
     have had : 0 ≤ Int.tmod (bc p s data (p.mems.getD j aR).addr).1 (p.mems.getD j aR).words∧Int.tmod (bc p s data (p.mems.getD j aR).addr).1 (p.mems.getD j aR).words < (s.mems.getD j []).length∧(p.mems.getD j aR).words ≠ 0 := Ac hp hso hda (show j < p.mems.length by omega)
     refine tt ⟨ix,tt ⟨oK,tt ⟨ix,tt ⟨⟨by simp only [List.length_map,List.length_nil]; omega,by simp⟩,tt ⟨(s9 p s data ((p.mems.getD j aR).enable) ho hmw hme.1 hme.2),⟨fun hc57 => ?_,fun hc57 => ?_⟩⟩⟩⟩⟩⟩
     · refine tt ⟨(jK ho hmw 2 ((p.mems.getD j aR).addr) _ hma hmb.1.2),tt ⟨om,tt ⟨(jK ho hmw 2 ((p.mems.getD j aR).data) _ hmb.2.1 hmb.2.2),tt ⟨ix,⟨⟨om,by simp only [List.map_set]; rfl⟩,tt ⟨⟨⟨rfl,oK⟩,oK⟩,⟨(bx (by omega) (by first | exact vE hc57 | exact Ab (by rw [hc57]; simp))),tt ⟨w6,tt ⟨(j + 1),rfl,(?_ : (j + 1) ≤ p.mems.length),(?_ : p.mems.length - (j + 1) < p.mems.length - j)⟩⟩⟩⟩⟩⟩⟩⟩⟩
       · omega
       · omega
     · refine tt ⟨⟨⟨rfl,oK⟩,oK⟩,⟨(bx (by omega) (by first | exact vE hc57 | exact Ab (by rw [hc57]; simp))),tt ⟨w6,tt ⟨(j + 1),rfl,(?_ : (j + 1) ≤ p.mems.length),(?_ : p.mems.length - (j + 1) < p.mems.length - j)⟩⟩⟩⟩
       · omega
       · omega
   · refine tt ⟨(congrArg _ (?_ : (an (fun z => (bc p s data (p.regs.getD z bG).next).1) i) = ((co p s data).regs))),(congrArg _ (?_ : (an (pU p s data) j) = ((co p s data).mems))),oK⟩
     · rw [show i = p.regs.length by omega]; rfl
     · rw [show j = p.mems.length by omega]; rfl
abbrev Jo (p : Pr) (s : Ps) (hs : List Hd) (rs : List Bool) : Ct := ⟨50,[(AB p),(.agg (lJ s)),(.agg [(dL 2 bj aG hs),(LB rs)])],true,(.agg [(dB ((aV p s hs rs).fires)),(LI (((aV p s hs rs).s).regs)),(dL 1 af [] (((aV p s hs rs).s).mems)),(LB ((aV p s hs rs).pops)),(dL 2 bj aG ((aV p s hs rs).puts))])⟩
abbrev ia (p : Pr) (s : Ps) (hs : List Hd) (rs : List Bool) : Lp (Nat × Bool) := kL [3,5,6,7,8,9] 16 (fun (i : Nat) (fir : Bool) => ⟨[(3,jb),(5,(.ptr 2 0 0 0)),(6,(.ptr 3 0 0 0)),(7,(.ptr 4 0 0 0)),(8,(.ptr 15 0 0 0)),(9,(i6 (i : Int)))],[(nj p),(.var 45 (lJ s)),(.var 121 [(dL 2 bj aG hs),(LB rs)]),AC,(AA p s hs),.dead,.dead,.dead,.dead,(.arr 4 1 aL false (List.replicate p.takes.length false)),.dead,.dead,.dead,(.arr 68 2 bj aG (List.replicate p.puts.length aG)),.dead,(.var 48 [(dB fir),(LI s.regs),(dL 1 af [] s.mems),(.own 9),(.own 13)])]⟩) (fun (i : Nat) (fir : Bool) => i ≤ p.takes.length∧fir = dq (iQ p s hs) i) (fun (i : Nat) (fir : Bool) => p.takes.length - i)
abbrev ib (p : Pr) (s : Ps) (hs : List Hd) (rs : List Bool) (fir : Bool) : Lp (Nat × Bool) := kL [3,5,6,7,8,10] 16 (fun (m : Nat) (fi2 : Bool) => ⟨[(3,jb),(5,(.ptr 2 0 0 0)),(6,(.ptr 3 0 0 0)),(7,(.ptr 4 0 0 0)),(8,(.ptr 15 0 0 0)),(10,(i6 (m : Int)))],[(nj p),(.var 45 (lJ s)),(.var 121 [(dL 2 bj aG hs),(LB rs)]),AC,(AA p s hs),.dead,.dead,.dead,.dead,(.arr 4 1 aL false (List.replicate p.takes.length false)),.dead,.dead,.dead,(.arr 68 2 bj aG (List.replicate p.puts.length aG)),.dead,(.var 48 [(dB fi2),(LI s.regs),(dL 1 af [] s.mems),(.own 9),(.own 13)])]⟩) (fun (m : Nat) (fi2 : Bool) => m ≤ p.puts.length∧fi2 = (fir && dq (j9 p s hs rs) m)) (fun (m : Nat) (fi2 : Bool) => p.puts.length - m)
abbrev mG (p : Pr) (s : Ps) (hs : List Hd) (rs : List Bool) (fi2 : Bool) : Lp (Nat × List Bool) := kL [3,6,7,8,11] 16 (fun (q : Nat) (pop : List Bool) => ⟨[(3,jb),(6,(.ptr 3 0 0 0)),(7,(.ptr 4 0 0 0)),(8,(.ptr 15 0 0 0)),(11,(i6 (q : Int)))],[(nj p),(.var 45 (lJ s)),(.var 121 [(dL 2 bj aG hs),(LB rs)]),AC,(AA p s hs),.dead,.dead,.dead,.dead,(.arr 4 1 aL false pop),.dead,.dead,.dead,(.arr 68 2 bj aG (List.replicate p.puts.length aG)),.dead,(.var 48 [(dB fi2),(LI ((co p s (bV p s hs)).regs)),(dL 1 af [] ((co p s (bV p s hs)).mems)),(.own 9),(.own 13)])]⟩) (fun (q : Nat) (pop : List Bool) => q ≤ p.takes.length∧pop = b7 (ph p s hs) (List.replicate p.takes.length false) q) (fun (q : Nat) (pop : List Bool) => p.takes.length - q)
abbrev jL (p : Pr) (s : Ps) (hs : List Hd) (rs : List Bool) (fi2 : Bool) (pop : List Bool) : Lp (Nat × List Hd) := kL [3,6,7,8,12] 16 (fun (t : Nat) (put : List Hd) => ⟨[(3,jb),(6,(.ptr 3 0 0 0)),(7,(.ptr 4 0 0 0)),(8,(.ptr 15 0 0 0)),(12,(i6 (t : Int)))],[(nj p),(.var 45 (lJ s)),(.var 121 [(dL 2 bj aG hs),(LB rs)]),AC,(AA p s hs),.dead,.dead,.dead,.dead,(.arr 4 1 aL false pop),.dead,.dead,.dead,(.arr 68 2 bj aG put),.dead,(.var 48 [(dB fi2),(LI ((co p s (bV p s hs)).regs)),(dL 1 af [] ((co p s (bV p s hs)).mems)),(.own 9),(.own 13)])]⟩) (fun (t : Nat) (put : List Hd) => t ≤ p.puts.length∧put = b7 (pi p s hs) (List.replicate p.puts.length aG) t) (fun (t : Nat) (put : List Hd) => p.puts.length - t)
theorem BM (p : Pr) (s : Ps) (hs : List Hd) (rs : List Bool) (hp : fS p) (hso : nQ p s) (hh : w4 p hs) (hrs : rs.length = p.puts.length) : CC (Jo p s hs rs) := by
 have ht1 := hp.tl
 have ht2 := hp.pl
 have hhl := hh.l
 have hmw := hso.mn
 have ho := gm hp hso (sJ (s := s) (hs := hs) hp hh)
 have hda := sJ (s := s) (hs := hs) hp hh
 refine ak.vc (V := TT 7 (CC (Jm p s hs rs)∧TT 6 ((((0 : Int) ≤ (p.takes.length : Int)∧(p.takes.length : Int) ≤ (p.takes.length : Int)∧(p.takes.length : Int) ≤ 137438953472)∧(List.replicate p.takes.length false).length = p.takes.length∧∀ x ∈ (List.replicate p.takes.length false),cG [(dB false)] (aL x))∧TT 3 ((((0 : Int) ≤ (p.puts.length : Int)∧(p.puts.length : Int) ≤ (p.puts.length : Int)∧(p.puts.length : Int) ≤ 137438953472)∧(List.replicate p.puts.length aG).length = p.puts.length∧∀ x ∈ (List.replicate p.puts.length aG),cG [(dB false),(i6 0)] (bj x))∧TT 4 (GO (ia p s hs rs) (0,true) (∀ i fir,(ia p s hs rs).inv (i,fir) → TT 5 (CD ((i : Int) < (p.takes.length : Int)) (CS (fir = true) (CS (((hs.getD i aG).has) = true) (TT 2 ((True∧fir = true)∧TT 3 (IX (i : Int) hs.length∧TT 2 ((True∧((hs.getD i aG).has) = true)∧TT 5 (W6 ((i + 1 : Nat) : Int)∧TT 1 (AG (ia p s hs rs) (i,fir) (i + 1,true))))))) (TT 2 ((True∧fir = true)∧TT 3 (IX (i : Int) hs.length∧TT 2 ((True∧((hs.getD i aG).has) = false)∧TT 4 (IX (i : Int) p.takes.length∧TT 2 (CC (ze p s (bV p s hs) ((p.takes.getD i bq).when))∧TT 6 (W6 ((i + 1 : Nat) : Int)∧TT 1 (AG (ia p s hs rs) (i,fir) (i + 1,!(dW p s (bV p s hs) ((p.takes.getD i bq).when)))))))))))) (TT 2 ((True∧fir = false)∧TT 4 (W6 ((i + 1 : Nat) : Int)∧TT 1 (AG (ia p s hs rs) (i,fir) (i + 1,false)))))) (TT 1 (GO (ib p s hs rs fir) (0,fir) (∀ m fi2,(ib p s hs rs fir).inv (m,fi2) → TT 5 (CD ((m : Int) < (p.puts.length : Int)) (CS (fi2 = true) (CS ((rs.getD m false) = true) (TT 2 ((True∧fi2 = true)∧TT 3 (IX (m : Int) rs.length∧TT 1 ((True∧(rs.getD m false) = true)∧TT 5 (W6 ((m + 1 : Nat) : Int)∧TT 1 (AG (ib p s hs rs fir) (m,fi2) (m + 1,true))))))) (TT 2 ((True∧fi2 = true)∧TT 3 (IX (m : Int) rs.length∧TT 1 ((True∧(rs.getD m false) = false)∧TT 4 (IX (m : Int) p.puts.length∧TT 2 (CC (ze p s (bV p s hs) ((p.puts.getD m a5).when))∧TT 6 (W6 ((m + 1 : Nat) : Int)∧TT 1 (AG (ib p s hs rs fir) (m,fi2) (m + 1,!(dW p s (bV p s hs) ((p.puts.getD m a5).when)))))))))))) (TT 2 ((True∧fi2 = false)∧TT 4 (W6 ((m + 1 : Nat) : Int)∧TT 1 (AG (ib p s hs rs fir) (m,fi2) (m + 1,false)))))) (TT 3 (CB (!fi2) (TT 3 (fi2 = ((aV p s hs rs).fires)∧s.regs.map (ah .i64) = (((aV p s hs rs).s).regs).map (ah .i64)∧s.mems.map af = (((aV p s hs rs).s).mems).map af∧(List.replicate p.takes.length false).map aL = ((aV p s hs rs).pops).map aL∧(List.replicate p.puts.length aG).map bj = ((aV p s hs rs).puts).map bj∧True)) (TT 1 (CC (Jn p s (bV p s hs))∧TT 3 (GO (mG p s hs rs fi2) (0,List.replicate p.takes.length false) (∀ q pop,(mG p s hs rs fi2).inv (q,pop) → TT 5 (CD ((q : Int) < (p.takes.length : Int)) (TT 7 (IX (q : Int) p.takes.length∧TT 2 (CC (ze p s (bV p s hs) ((p.takes.getD q bq).when))∧IX (q : Int) pop.length∧(q < pop.length∧(pop.map aL).set q ((aL (pop.getD q false)).take 0 ++ [(.bool (dW p s (bV p s hs) ((p.takes.getD q bq).when)))] ++ (aL (pop.getD q false)).drop (0 + 1)) = (pop.set q (dW p s (bV p s hs) ((p.takes.getD q bq).when))).map aL)∧TT 1 (W6 ((q + 1 : Nat) : Int)∧TT 1 (AG (mG p s hs rs fi2) (q,pop) (q + 1,pop.set q (dW p s (bV p s hs) ((p.takes.getD q bq).when)))))))) (TT 1 (GO (jL p s hs rs fi2 pop) (0,List.replicate p.puts.length aG) (∀ t put,(jL p s hs rs fi2 pop).inv (t,put) → TT 5 (CD ((t : Int) < (p.puts.length : Int)) (TT 4 (IX (t : Int) p.puts.length∧TT 2 (CC (ze p s (bV p s hs) ((p.puts.getD t a5).when))∧CB (dW p s (bV p s hs) ((p.puts.getD t a5).when)) (TT 7 (IX (t : Int) p.puts.length∧TT 2 (CC (xz p s (bV p s hs) 2 ((p.puts.getD t a5).data))∧TT 2 (IX (t : Int) put.length∧(t < put.length∧(put.map bj).set t ((bj (put.getD t aG)).take 0 ++ [(.bool true),(.int .i64 ((bc p s (bV p s hs) ((p.puts.getD t a5).data)).1))] ++ (bj (put.getD t aG)).drop (0 + 2)) = (put.set t (⟨true,(bc p s (bV p s hs) ((p.puts.getD t a5).data)).1⟩ : Hd)).map bj)∧TT 1 (W6 ((t + 1 : Nat) : Int)∧TT 1 (AG (jL p s hs rs fi2 pop) (t,put) (t + 1,put.set t (⟨true,(bc p s (bV p s hs) ((p.puts.getD t a5).data)).1⟩ : Hd)))))))) (TT 1 (W6 ((t + 1 : Nat) : Int)∧TT 1 (AG (jL p s hs rs fi2 pop) (t,put) (t + 1,put))))))) (TT 3 (fi2 = ((aV p s hs rs).fires)∧((co p s (bV p s hs)).regs).map (ah .i64) = (((aV p s hs rs).s).regs).map (ah .i64)∧((co p s (bV p s hs)).mems).map af = (((aV p s hs rs).s).mems).map af∧pop.map aL = ((aV p s hs rs).pops).map aL∧put.map bj = ((aV p s hs rs).puts).map bj∧True)))))))))))))))))))))))) (.w 1 [(3,(Jm p s hs rs).O)] <| .w 2 [(4,.box 4 1 aL false (List.replicate p.takes.length false)),(8,.box 68 2 bj aG (List.replicate p.puts.length aG))] <| .l (ia p s hs rs) (0,true) (fun ⟨i,fir⟩ => .b 31 (.s 6 (fir = true) (.s 6 (((hs.getD i aG).has) = true) (.w 6 [(2,.val (dB true)),(9,.val (dB true))] <| .w 5 [(1,.val (i6 ((i + 1 : Nat) : Int)))] <| .e) (.w 6 [(2,.val (dB true)),(9,.val (dB false)),(17,(ze p s (bV p s hs) ((p.takes.getD i bq).when)).O)] <| .w 5 [(1,.val (i6 ((i + 1 : Nat) : Int)))] <| .e)) (.w 6 [(2,.val (dB false))] <| .w 5 [(1,.val (i6 ((i + 1 : Nat) : Int)))] <| .e)) (.l (ib p s hs rs fir) (0,fir) (fun ⟨m,fi2⟩ => .b 60 (.s 10 (fi2 = true) (.s 10 ((rs.getD m false) = true) (.w 10 [(2,.val (dB true)),(8,.val (dB true))] <| .w 9 [(1,.val (i6 ((m + 1 : Nat) : Int)))] <| .e) (.w 10 [(2,.val (dB true)),(8,.val (dB false)),(16,(ze p s (bV p s hs) ((p.puts.getD m a5).when)).O)] <| .w 9 [(1,.val (i6 ((m + 1 : Nat) : Int)))] <| .e)) (.w 10 [(2,.val (dB false))] <| .w 9 [(1,.val (i6 ((m + 1 : Nat) : Int)))] <| .e)) (.b 86 (.e) (.w 13 [(1,(Jn p s (bV p s hs)).O)] <| .l (mG p s hs rs fi2) (0,List.replicate p.takes.length false) (fun ⟨q,pop⟩ => .b 95 (.w 17 [(10,(ze p s (bV p s hs) ((p.takes.getD q bq).when)).O),(12,.box 4 1 aL false (pop.set q (dW p s (bV p s hs) ((p.takes.getD q bq).when))))] <| .w 16 [(1,.val (i6 ((q + 1 : Nat) : Int)))] <| .e) (.l (jL p s hs rs fi2 pop) (0,List.replicate p.puts.length aG) (fun ⟨t,put⟩ => .b 114 (.w 21 [(7,(ze p s (bV p s hs) ((p.puts.getD t a5).when)).O)] <| .b 124 (.w 22 [(10,(xz p s (bV p s hs) 2 ((p.puts.getD t a5).data)).O),(14,.box 68 2 bj aG (put.set t (⟨true,(bc p s (bV p s hs) ((p.puts.getD t a5).data)).1⟩ : Hd)))] <| .w 20 [(1,.val (i6 ((t + 1 : Nat) : Int)))] <| .e) (.w 20 [(1,.val (i6 ((t + 1 : Nat) : Int)))] <| .e)) (.e)))))))))) Tryz.func50 rfl rfl rfl (by kernel_rfl) ?_
 refine tt ⟨(zf p s hs rs hp hso hh),tt ⟨⟨by omega,List.length_replicate,fun x hx => by rw [List.eq_of_mem_replicate hx]; exact ⟨rfl,oK⟩⟩,tt ⟨⟨by omega,List.length_replicate,fun x hx => by rw [List.eq_of_mem_replicate hx]; exact ⟨rfl,rfl,oK⟩⟩,tt ⟨rfl,⟨by omega,rfl⟩,?_⟩⟩⟩⟩
 intro i fir hinv
 obtain ⟨hi,hfir⟩ := hinv
 refine tt (cd (fun hc31 => ?_) (fun hc31 => ?_))
 · have hwh := rC hp (show i < p.takes.length by omega)
   refine ⟨fun hs0 => ?_,fun hs0 => ?_⟩
   · refine ⟨fun hs1 => ?_,fun hs1 => ?_⟩
     · refine tt ⟨(bT hs0),tt ⟨ix,tt ⟨(bT hs1),tt ⟨w6,tt ⟨(i + 1,true),rfl,?_,(?_ : p.takes.length - (i + 1) < p.takes.length - i)⟩⟩⟩⟩⟩
       · exact ⟨by omega,lv hfir _ (by unfold iQ; clear hfir; cases fir <;> simp_all)⟩
       · omega
     · refine tt ⟨(bT hs0),tt ⟨ix,tt ⟨(bF hs1),tt ⟨ix,tt ⟨(s9 p s (bV p s hs) ((p.takes.getD i bq).when) ho hmw hwh.1 hwh.2),tt ⟨w6,tt ⟨(i + 1,!(dW p s (bV p s hs) ((p.takes.getD i bq).when))),rfl,?_,(?_ : p.takes.length - (i + 1) < p.takes.length - i)⟩⟩⟩⟩⟩⟩⟩
       · exact ⟨by omega,lv hfir _ (by unfold iQ; clear hfir; cases fir <;> simp_all)⟩
       · omega
   · refine tt ⟨(bF hs0),tt ⟨w6,tt ⟨(i + 1,false),rfl,?_,(?_ : p.takes.length - (i + 1) < p.takes.length - i)⟩⟩⟩
     · exact ⟨by omega,lv hfir _ (by unfold iQ; clear hfir; cases fir <;> simp_all)⟩
     · omega
 · refine tt ⟨rfl,⟨by omega,by simp [dq]⟩,?_⟩
   intro m fi2 hinv
   obtain ⟨hm,hfi2⟩ := hinv
   refine tt (cd (fun hc60 => ?_) (fun hc60 => ?_))
   · have hpw := hp.pw m (by omega)
     refine ⟨fun hs2 => ?_,fun hs2 => ?_⟩
     · refine ⟨fun hs3 => ?_,fun hs3 => ?_⟩
       · refine tt ⟨(bT hs2),tt ⟨ix,tt ⟨(bT hs3),tt ⟨w6,tt ⟨(m + 1,true),rfl,?_,(?_ : p.puts.length - (m + 1) < p.puts.length - m)⟩⟩⟩⟩⟩
         · exact ⟨by omega,qz hfi2 _ (by unfold j9; clear hfi2 hfir; cases fi2 <;> simp_all)⟩
         · omega
       · refine tt ⟨(bT hs2),tt ⟨ix,tt ⟨(bF hs3),tt ⟨ix,tt ⟨(s9 p s (bV p s hs) ((p.puts.getD m a5).when) ho hmw hpw.2.1.1 hpw.2.1.2),tt ⟨w6,tt ⟨(m + 1,!(dW p s (bV p s hs) ((p.puts.getD m a5).when))),rfl,?_,(?_ : p.puts.length - (m + 1) < p.puts.length - m)⟩⟩⟩⟩⟩⟩⟩
         · exact ⟨by omega,qz hfi2 _ (by unfold j9; clear hfi2 hfir; cases fi2 <;> simp_all)⟩
         · omega
     · refine tt ⟨(bF hs2),tt ⟨w6,tt ⟨(m + 1,false),rfl,?_,(?_ : p.puts.length - (m + 1) < p.puts.length - m)⟩⟩⟩
       · exact ⟨by omega,qz hfi2 _ (by unfold j9; clear hfi2 hfir; cases fi2 <;> simp_all)⟩
       · omega
   · have hie : i = p.takes.length := by omega
     have hme : m = p.puts.length := by omega
     refine tt ⟨fun hc86 => ?_,fun hc86 => ?_⟩
     · refine tt ⟨?_,(congrArg _ (?_ : s.regs = (((aV p s hs rs).s).regs))),(congrArg _ (?_ : s.mems = (((aV p s hs rs).s).mems))),(congrArg _ (?_ : (List.replicate p.takes.length false) = ((aV p s hs rs).pops))),(congrArg _ (?_ : (List.replicate p.puts.length aG) = ((aV p s hs rs).puts))),oK⟩
       all_goals
         rw [z6 (by rw [l8 (rs := rs) (a := fir) (b := fi2) (by rw [hfir,hie]) (by rw [hfi2,hme])]; simpa using hc86)]
         first | done | rfl | simpa using hc86
     · refine tt ⟨(DZ p s (bV p s hs) hp hso hda),tt ⟨rfl,⟨by omega,rfl⟩,?_⟩⟩
       intro q pop hinv
       obtain ⟨hq,hpop⟩ := hinv
       have hpl : pop.length = p.takes.length := by rw [hpop,c7 (by rw [List.length_replicate]; exact hq),List.length_replicate]
       refine tt (cd (fun hc95 => ?_) (fun hc95 => ?_))
       · have hwh := rC hp (show q < p.takes.length by omega)
         refine tt ⟨ix,tt ⟨(s9 p s (bV p s hs) ((p.takes.getD q bq).when) ho hmw hwh.1 hwh.2),⟨ix,⟨⟨om,by simp only [List.map_set]; rfl⟩,tt ⟨w6,tt ⟨(q + 1,pop.set q (dW p s (bV p s hs) ((p.takes.getD q bq).when))),rfl,?_,(?_ : p.takes.length - (q + 1) < p.takes.length - q)⟩⟩⟩⟩⟩⟩
         · exact ⟨by omega,by rw [hpop]; exact bK (by rw [List.length_replicate]; omega) rfl⟩
         · omega
       · refine tt ⟨rfl,⟨by omega,rfl⟩,?_⟩
         intro t put hinv
         obtain ⟨ht,hput⟩ := hinv
         have hql : put.length = p.puts.length := by rw [hput,c7 (by rw [List.length_replicate]; exact ht),List.length_replicate]
         refine tt (cd (fun hc114 => ?_) (fun hc114 => ?_))
         · have hpw := hp.pw t (by omega)
           refine tt ⟨ix,tt ⟨(s9 p s (bV p s hs) ((p.puts.getD t a5).when) ho hmw hpw.2.1.1 hpw.2.1.2),⟨fun hc124 => ?_,fun hc124 => ?_⟩⟩⟩
           · refine tt ⟨ix,tt ⟨(jK ho hmw 2 ((p.puts.getD t a5).data) _ hpw.2.2.1 hpw.2.2.2),tt ⟨ix,⟨⟨om,by simp only [List.map_set]; rfl⟩,tt ⟨w6,tt ⟨(t + 1,put.set t (⟨true,(bc p s (bV p s hs) ((p.puts.getD t a5).data)).1⟩ : Hd)),rfl,?_,(?_ : p.puts.length - (t + 1) < p.puts.length - t)⟩⟩⟩⟩⟩⟩
             · exact ⟨by omega,by rw [hput]; exact bK (by rw [List.length_replicate]; omega) (if_pos hc124)⟩
             · omega
           · refine tt ⟨w6,tt ⟨(t + 1,put),rfl,?_,(?_ : p.puts.length - (t + 1) < p.puts.length - t)⟩⟩
             · exact ⟨by omega,by rw [hput]; exact bD (d := aG) (by rw [List.length_replicate]; omega) ((if_neg (by rw [hc124]; simp)).trans bO.symm)⟩
             · omega
         · refine tt ⟨?_,(congrArg _ (?_ : ((co p s (bV p s hs)).regs) = (((aV p s hs rs).s).regs))),(congrArg _ (?_ : ((co p s (bV p s hs)).mems) = (((aV p s hs rs).s).mems))),(congrArg _ (?_ : pop = ((aV p s hs rs).pops))),(congrArg _ (?_ : put = ((aV p s hs rs).puts))),oK⟩
           all_goals
             rw [vD (by rw [l8 (rs := rs) (a := fir) (b := fi2) (by rw [hfir,hie]) (by rw [hfi2,hme])]; simpa using hc86)]
             first | done | (simpa using hc86) | (rw [hpop,show q = p.takes.length by omega,cK (by rw [List.length_replicate]; exact Nat.le_refl _)]) | (rw [hput,show t = p.puts.length by omega,cK (by rw [List.length_replicate]; exact Nat.le_refl _)])
abbrev xA (a b : List Int) : Ct := ⟨18,[(LI a),(LI b)],false,(dB (decide (a = b)))⟩
abbrev rJ (a : List Int) (b : List Int) : Lp (Nat) := gJ [0,1,5] 0 (fun (k : Nat) => ⟨[(0,(LI a)),(1,(LI b)),(5,(i6 (k : Int)))],[]⟩) (fun (k : Nat) => k ≤ a.length∧∀ z,z < k → a.getD z 0 = b.getD z 0) (fun (k : Nat) => a.length - k)
theorem jc (a b : List Int) (ha : a.length ≤ 9223372036854775807) : CC (xA a b) := by
 refine ak.vc (V := TT 6 (CN ((a.length : Int) = (b.length : Int)) (TT 2 (false = (decide (a = b))∧True)) (TT 1 (GO (rJ a b) 0 (∀ k,(rJ a b).inv k → TT 4 (CD ((k : Int) < (a.length : Int)) (TT 2 (IX (k : Int) a.length∧TT 3 (IX (k : Int) b.length∧TT 2 (CN ((a.getD k 0) = (b.getD k 0)) (TT 2 (false = (decide (a = b))∧True)) (TT 1 (W6 ((k + 1 : Nat) : Int)∧TT 1 (AG (rJ a b) k (k + 1)))))))) (TT 2 (true = (decide (a = b))∧True)))))))) (.b 10 (.e) (.l (rJ a b) 0 (fun k => .b 14 (.b 25 (.e) (.w 5 [(1,.val (i6 ((k + 1 : Nat) : Int)))] <| .e)) (.e)))) Tryz.func18 rfl rfl rfl (by kernel_rfl) ?_
 refine tt (cn (fun hc10 => ?_) (fun hc10 => ?_))
 · refine tt ⟨?_,oK⟩
   first | exact (decide_eq_false (fun e => by subst e; omega)).symm | exact (decide_eq_false (same_no (k := k) (by simpa using hc25))).symm | exact (decide_eq_true (dK (by omega) (by omega) hall)).symm
 · refine tt ⟨rfl,⟨by omega,fun z hz => by omega⟩,?_⟩
   intro k hinv
   obtain ⟨hk,hall⟩ := hinv
   refine tt (cd (fun hc14 => ?_) (fun hc14 => ?_))
   · refine tt ⟨ix,tt ⟨ix,tt (cn (fun hc25 => ?_) (fun hc25 => ?_))⟩⟩
     · refine tt ⟨?_,oK⟩
       first | exact (decide_eq_false (fun e => by subst e; omega)).symm | exact (decide_eq_false (same_no (k := k) (by simpa using hc25))).symm | exact (decide_eq_true (dK (by omega) (by omega) hall)).symm
     · refine tt ⟨w6,tt ⟨(k + 1),rfl,?_,(?_ : a.length - (k + 1) < a.length - k)⟩⟩
       · exact ⟨by omega,ce hall (by simpa using hc25)⟩
       · omega
   · refine tt ⟨?_,oK⟩
     first | exact (decide_eq_false (fun e => by subst e; omega)).symm | exact (decide_eq_false (same_no (k := k) (by simpa using hc25))).symm | exact (decide_eq_true (dK (by omega) (by omega) hall)).symm
abbrev xB (a b : Ps) : Ct := ⟨17,[(.agg [(LI a.regs),(dL 1 af [] a.mems)]),(.agg [(LI b.regs),(dL 1 af [] b.mems)])],false,(dB (dA a b))⟩
abbrev mH (a : Ps) (b : Ps) : Lp (Nat) := gJ [2,3,5] 2 (fun (k : Nat) => ⟨[(2,jb),(3,(.ptr 1 0 0 0)),(5,(i6 (k : Int)))],[(.var 45 [(LI a.regs),(dL 1 af [] a.mems)]),(.var 45 [(LI b.regs),(dL 1 af [] b.mems)])]⟩) (fun (k : Nat) => k ≤ a.mems.length∧∀ z,z < k → a.mems.getD z [] = b.mems.getD z []) (fun (k : Nat) => a.mems.length - k)
theorem fg (a b : Ps) (ha : a.regs.length ≤ 9223372036854775807) (hb : a.mems.length ≤ 9223372036854775807) (hc : ∀ i,(a.mems.getD i []).length ≤ 9223372036854775807) : CC (xB a b) := by
 refine ak.vc (V := TT 3 (CS (a.regs = b.regs) (TT 4 (CC (xA a.regs b.regs)∧TT 1 ((True∧(!decide (a.regs = b.regs)) = false)∧TT 8 (CN ((a.mems.length : Int) = (b.mems.length : Int)) (TT 2 (false = (dA a b)∧True)) (TT 1 (GO (mH a b) 0 (∀ k,(mH a b).inv k → TT 5 (CD ((k : Int) < (a.mems.length : Int)) (TT 3 (IX (k : Int) a.mems.length∧TT 4 (IX (k : Int) b.mems.length∧TT 1 (CC (xA (a.mems.getD k []) (b.mems.getD k []))∧TT 1 (CN ((a.mems.getD k []) = (b.mems.getD k [])) (TT 2 (false = (dA a b)∧True)) (TT 1 (W6 ((k + 1 : Nat) : Int)∧TT 1 (AG (mH a b) k (k + 1))))))))) (TT 2 (true = (dA a b)∧True)))))))))) (TT 4 (CC (xA a.regs b.regs)∧TT 1 ((True∧(!decide (a.regs = b.regs)) = true)∧TT 10 (false = (dA a b)∧True)))))) (.s 1 (a.regs = b.regs) (.w 1 [(4,(xA a.regs b.regs).O),(6,.val (dB false))] <| .b 20 (.e) (.l (mH a b) 0 (fun k => .b 25 (.w 6 [(10,(xA (a.mems.getD k []) (b.mems.getD k [])).O)] <| .b 39 (.e) (.w 5 [(1,.val (i6 ((k + 1 : Nat) : Int)))] <| .e)) (.e)))) (.w 1 [(4,(xA a.regs b.regs).O),(6,.val (dB true))] <| .e)) Tryz.func17 rfl rfl rfl (by kernel_rfl) ?_
 refine tt ⟨fun hs0 => ?_,fun hs0 => ?_⟩
 · refine tt ⟨(jc a.regs b.regs ha),tt ⟨(nF hs0),tt (cn (fun hc20 => ?_) (fun hc20 => ?_))⟩⟩
   · refine tt ⟨?_,oK⟩
     first | exact (ka (by simpa using hs0)).symm | exact (kb (by omega)).symm | exact (kd (i := k) (by simpa using hc39)).symm | exact (ke (by simpa using hs0) (dK (by omega) (by omega) hall)).symm
   · refine tt ⟨rfl,⟨by omega,fun z hz => by omega⟩,?_⟩
     intro k hinv
     obtain ⟨hk,hall⟩ := hinv
     refine tt (cd (fun hc25 => ?_) (fun hc25 => ?_))
     · refine tt ⟨ix,tt ⟨ix,tt ⟨(jc (a.mems.getD k []) (b.mems.getD k []) (hc k)),tt (cn (fun hc39 => ?_) (fun hc39 => ?_))⟩⟩⟩
       · refine tt ⟨?_,oK⟩
         first | exact (ka (by simpa using hs0)).symm | exact (kb (by omega)).symm | exact (kd (i := k) (by simpa using hc39)).symm | exact (ke (by simpa using hs0) (dK (by omega) (by omega) hall)).symm
       · refine tt ⟨w6,tt ⟨(k + 1),rfl,?_,(?_ : a.mems.length - (k + 1) < a.mems.length - k)⟩⟩
         · exact ⟨by omega,ce hall (by simpa using hc39)⟩
         · omega
     · refine tt ⟨?_,oK⟩
       first | exact (ka (by simpa using hs0)).symm | exact (kb (by omega)).symm | exact (kd (i := k) (by simpa using hc39)).symm | exact (ke (by simpa using hs0) (dK (by omega) (by omega) hall)).symm
 · refine tt ⟨(jc a.regs b.regs ha),tt ⟨(nT hs0),tt ⟨?_,oK⟩⟩⟩
   first | exact (ka (by simpa using hs0)).symm | exact (kb (by omega)).symm | exact (kd (i := k) (by simpa using hc39)).symm | exact (ke (by simpa using hs0) (dK (by omega) (by omega) hall)).symm
end Go.Proofs.YtifoecfajmnjjaaGreat
