/-
  The reference of package process.
-/
import Derived.Test.YtgmpoenfoacofaaGreatQPrA
import Derived.Test.YtgmpoenfoacofaaGreatQPrT
import Derived.Test.YtgmpoenfoacofaaGreatQVrA
namespace Go.Proofs.YtgmpoenfoacofaaGreat
open Go.RowKit
set_option linter.unusedVariables false
set_option linter.unusedSimpArgs false
abbrev oB (p : Pr) : aC := (.var 82 [(dS p.name),(dS p.clock),(dL 13 jj bJ p.regs),(dL 27 qX aK p.mems),(dL 9 jW bK p.takes),(dL 16 ib bp p.puts)])
abbrev DC (p : Pr) (s : Ps) (hs : List Hd) : aC := (.var 205 [(dS p.name),(dS p.clock),(dL 13 jj bJ p.regs),(dL 27 qX aK p.mems),(dL 9 jW bK p.takes),(dL 16 ib bp p.puts),(LI s.regs),(dL 1 ac [] s.mems),(LI (bO p s hs))])
abbrev DD (p : Pr) : D := (.agg [(dS p.name),(dS p.clock),(dL 13 jj bJ p.regs),(dL 27 qX aK p.mems),(dL 9 jW bK p.takes),(dL 16 ib bp p.puts)])
abbrev Hn (p : Pr) (s : Ps) (data : List Int) : aC := (.var 205 [(dS p.name),(dS p.clock),(dL 13 jj bJ p.regs),(dL 27 qX aK p.mems),(dL 9 jW bK p.takes),(dL 16 ib bp p.puts),(LI s.regs),(dL 1 ac [] s.mems),(LI data)])
abbrev Ho (p : Pr) (s : Ps) (data : List Int) : D := (.agg [(dS p.name),(dS p.clock),(dL 13 jj bJ p.regs),(dL 27 qX aK p.mems),(dL 9 jW bK p.takes),(dL 16 ib bp p.puts),(LI s.regs),(dL 1 ac [] s.mems),(LI data)])
abbrev mt (s : Ps) : List D := [(LI s.regs),(dL 1 ac [] s.mems)]
abbrev DE : aC := (.var 179 [(dB false),.nils,.nils,.nils,.nils])
abbrev jr : D := (.ptr 0 0 0 0)
set_option maxRecDepth 100000
abbrev L2 (v w : Int) : Ct := ⟨68,[(i6 v),(i6 w)],false,(dB (cT v w))⟩
theorem Ax (v w : Int) (h1 : 0 ≤ w) (h2 : w ≤ 62) : CC (L2 v w) := by
 refine af.vc (V := TT 1 (CS (v ≥ 0) (TT 2 ((True∧(decide (v ≥ 0)) = true)∧TT 2 ((True∧IntKind.u64.wrap w = w)∧(0 ≤ w∧(Int.fdiv v (2 ^ min w.toNat 64)) = (v / 2 ^ w.toNat))∧TT 4 (((v / 2 ^ w.toNat) == 0) = (cT v w)∧True)))) (TT 2 ((True∧(decide (v ≥ 0)) = false)∧TT 8 (false = (cT v w)∧True))))) (.s 1 (v ≥ 0) (.w 1 [(2,.val (dB true)),(5,.val (dI .u64 w)),(6,.val (i6 (v / 2 ^ w.toNat)))] <| .e) (.w 1 [(2,.val (dB false))] <| .e)) Tryz.func68 rfl rfl rfl (by kernel_rfl) ?_
 refine tt ⟨fun hs0 => ?_,fun hs0 => ?_⟩
 · refine tt ⟨(vT hs0),tt ⟨⟨oK,FV rfl om om⟩,⟨⟨(by omega),(yg h1 h2)⟩,tt ⟨?_,oK⟩⟩⟩⟩
   first | exact CZ (by omega) h1 h2 | (unfold cT; rw [decide_eq_false (by omega)]; rfl)
 · refine tt ⟨(vF hs0),tt ⟨?_,oK⟩⟩
   first | exact CZ (by omega) h1 h2 | (unfold cT; rw [decide_eq_false (by omega)]; rfl)
abbrev Np (p : Pr) (s : Ps) : Ct := ⟨45,[(DD p),(.agg (mt s))],false,(dB (bW p s))⟩
abbrev nj (p : Pr) (s : Ps) : Lp (Nat) := fG [2,3,5] 2 (fun (i : Nat) => ⟨[(2,jr),(3,(.ptr 1 0 0 0)),(5,(i6 (i : Int)))],[(oB p),(.var 112 (mt s))]⟩) (fun (i : Nat) => i ≤ s.regs.length∧∀ z,z < i → cT (s.regs.getD z 0) (p.regs.getD z bJ).w = true) (fun (i : Nat) => s.regs.length - i)
abbrev nk (p : Pr) (s : Ps) : Lp (Nat) := fG [2,3,6] 2 (fun (j : Nat) => ⟨[(2,jr),(3,(.ptr 1 0 0 0)),(6,(i6 (j : Int)))],[(oB p),(.var 112 (mt s))]⟩) (fun (j : Nat) => j ≤ s.mems.length∧∀ z,z < j → iM p s z = true) (fun (j : Nat) => s.mems.length - j)
abbrev nn (p : Pr) (s : Ps) (j : Nat) : Lp (Nat) := fG [2,3,6,7] 15 (fun (k : Nat) => ⟨[(2,jr),(3,(.ptr 1 0 0 0)),(6,(i6 (j : Int))),(7,(i6 (k : Int)))],[(oB p),(.var 112 (mt s)),.dead,.dead,.dead,.dead,.dead,.dead,.dead,.dead,.dead,.dead,.dead,.dead,.dead]⟩) (fun (k : Nat) => k ≤ (s.mems.getD j []).length∧∀ z,z < k → cT ((s.mems.getD j []).getD z 0) (p.mems.getD j aK).w = true) (fun (k : Nat) => (s.mems.getD j []).length - k)
theorem E8 (p : Pr) (s : Ps) (hp : gm p) : CC (Np p s) := by
 have hl1 := hp.rl
 have hl2 := hp.ml
 refine af.vc (V := TT 3 (CS ((s.regs.length : Int) = (p.regs.length : Int)) (TT 7 ((True∧(!decide ((s.regs.length : Int) = (p.regs.length : Int))) = false)∧TT 8 (CN ((s.mems.length : Int) = (p.mems.length : Int)) (TT 2 (false = (bW p s)∧True)) (TT 1 (GO (nj p s) 0 (∀ i,(nj p s).inv i → TT 5 (CD ((i : Int) < (s.regs.length : Int)) (TT 3 (IX (i : Int) s.regs.length∧TT 4 (IX (i : Int) p.regs.length∧TT 2 (CC (L2 (s.regs.getD i 0) ((p.regs.getD i bJ).w))∧TT 1 (CB (!(cT (s.regs.getD i 0) ((p.regs.getD i bJ).w))) (TT 2 (false = (bW p s)∧True)) (TT 1 (W6 ((i + 1 : Nat) : Int)∧TT 1 (AG (nj p s) i (i + 1))))))))) (TT 1 (GO (nk p s) 0 (∀ j,(nk p s).inv j → TT 5 (CD ((j : Int) < (s.mems.length : Int)) (TT 3 (IX (j : Int) s.mems.length∧TT 5 (IX (j : Int) p.mems.length∧TT 3 (CN ((((s.mems.getD j []).length : Nat) : Int) = ((p.mems.getD j aK).words)) (TT 2 (false = (bW p s)∧True)) (TT 1 (GO (nn p s j) 0 (∀ k,(nn p s j).inv k → TT 4 (IX (j : Int) s.mems.length∧TT 3 (CD ((k : Int) < (((s.mems.getD j []).length : Nat) : Int)) (TT 3 (IX (j : Int) s.mems.length∧TT 2 (IX (k : Int) ((s.mems.getD j []).length)∧TT 4 (IX (j : Int) p.mems.length∧TT 2 (CC (L2 ((s.mems.getD j []).getD k 0) ((p.mems.getD j aK).w))∧TT 1 (CB (!(cT ((s.mems.getD j []).getD k 0) ((p.mems.getD j aK).w))) (TT 2 (false = (bW p s)∧True)) (TT 1 (W6 ((k + 1 : Nat) : Int)∧TT 1 (AG (nn p s j) k (k + 1)))))))))) (TT 1 (W6 ((j + 1 : Nat) : Int)∧TT 1 (AG (nk p s) j (j + 1))))))))))))) (TT 2 (true = (bW p s)∧True))))))))))))) (TT 7 ((True∧(!decide ((s.regs.length : Int) = (p.regs.length : Int))) = true)∧TT 10 (false = (bW p s)∧True))))) (.s 1 ((s.regs.length : Int) = (p.regs.length : Int)) (.w 1 [(7,.val (dB false))] <| .b 23 (.e) (.l (nj p s) 0 (fun i => .b 28 (.w 6 [(11,(L2 (s.regs.getD i 0) ((p.regs.getD i bJ).w)).O)] <| .b 43 (.e) (.w 5 [(1,.val (i6 ((i + 1 : Nat) : Int)))] <| .e)) (.l (nk p s) 0 (fun j => .b 48 (.b 63 (.e) (.l (nn p s j) 0 (fun k => .b 71 (.w 16 [(14,(L2 ((s.mems.getD j []).getD k 0) ((p.mems.getD j aK).w)).O)] <| .b 89 (.e) (.w 15 [(1,.val (i6 ((k + 1 : Nat) : Int)))] <| .e)) (.w 10 [(1,.val (i6 ((j + 1 : Nat) : Int)))] <| .e)))) (.e)))))) (.w 1 [(7,.val (dB true))] <| .e)) Tryz.func45 rfl rfl rfl (by kernel_rfl) ?_
 refine tt ⟨fun hs0 => ?_,fun hs0 => ?_⟩
 · refine tt ⟨(nF hs0),tt (cn (fun hc23 => ?_) (fun hc23 => ?_))⟩
   · refine tt ⟨?_,oK⟩
     first | exact (ii (by omega)).symm | exact (ij (by omega)).symm | exact (ik (i := i) (by omega) (by simpa using hc43)).symm | exact (cL (i := j) (by omega) (mV (by omega))).symm | exact (cL (i := j) (by omega) (mW (j := k) (by omega) (by simpa using hc89))).symm | exact (il (by omega) (by omega) (fun z hz => h3 z (by omega)) (fun z hz => h4 z (by omega))).symm
   · refine tt ⟨rfl,⟨by omega,fun z hz => by omega⟩,?_⟩
     intro i hinv
     obtain ⟨hi,h3⟩ := hinv
     refine tt (cd (fun hc28 => ?_) (fun hc28 => ?_))
     · have hrw := aU.1 (show ao (p.regs.getD i bJ).w = true from (hp.rw i (by omega)).1)
       refine tt ⟨ix,tt ⟨ix,tt ⟨(Ax (s.regs.getD i 0) ((p.regs.getD i bJ).w) om om),tt ⟨fun hc43 => ?_,fun hc43 => ?_⟩⟩⟩⟩
       · refine tt ⟨?_,oK⟩
         first | exact (ii (by omega)).symm | exact (ij (by omega)).symm | exact (ik (i := i) (by omega) (by simpa using hc43)).symm | exact (cL (i := j) (by omega) (mV (by omega))).symm | exact (cL (i := j) (by omega) (mW (j := k) (by omega) (by simpa using hc89))).symm | exact (il (by omega) (by omega) (fun z hz => h3 z (by omega)) (fun z hz => h4 z (by omega))).symm
       · refine tt ⟨w6,tt ⟨(i + 1),rfl,?_,(?_ : s.regs.length - (i + 1) < s.regs.length - i)⟩⟩
         · exact ⟨by omega,br h3 (by simpa using hc43)⟩
         · omega
     · refine tt ⟨rfl,⟨by omega,fun z hz => by omega⟩,?_⟩
       intro j hinv
       obtain ⟨hj,h4⟩ := hinv
       refine tt (cd (fun hc48 => ?_) (fun hc48 => ?_))
       · refine tt ⟨ix,tt ⟨ix,tt (cn (fun hc63 => ?_) (fun hc63 => ?_))⟩⟩
         · refine tt ⟨?_,oK⟩
           first | exact (ii (by omega)).symm | exact (ij (by omega)).symm | exact (ik (i := i) (by omega) (by simpa using hc43)).symm | exact (cL (i := j) (by omega) (mV (by omega))).symm | exact (cL (i := j) (by omega) (mW (j := k) (by omega) (by simpa using hc89))).symm | exact (il (by omega) (by omega) (fun z hz => h3 z (by omega)) (fun z hz => h4 z (by omega))).symm
         · have hmw : 1 ≤ (p.mems.getD j aK).words∧(p.mems.getD j aK).words ≤ 4 := (hp.mw j (by omega)).2.1
           refine tt ⟨rfl,⟨by omega,fun z hz => by omega⟩,?_⟩
           intro k hinv
           obtain ⟨hk,h5⟩ := hinv
           refine tt ⟨ix,tt (cd (fun hc71 => ?_) (fun hc71 => ?_))⟩
           · have hmww := aU.1 (show ao (p.mems.getD j aK).w = true from (hp.mw j (by omega)).1)
             refine tt ⟨ix,tt ⟨ix,tt ⟨ix,tt ⟨(Ax ((s.mems.getD j []).getD k 0) ((p.mems.getD j aK).w) om om),tt ⟨fun hc89 => ?_,fun hc89 => ?_⟩⟩⟩⟩⟩
             · refine tt ⟨?_,oK⟩
               first | exact (ii (by omega)).symm | exact (ij (by omega)).symm | exact (ik (i := i) (by omega) (by simpa using hc43)).symm | exact (cL (i := j) (by omega) (mV (by omega))).symm | exact (cL (i := j) (by omega) (mW (j := k) (by omega) (by simpa using hc89))).symm | exact (il (by omega) (by omega) (fun z hz => h3 z (by omega)) (fun z hz => h4 z (by omega))).symm
             · refine tt ⟨w6,tt ⟨(k + 1),rfl,?_,(?_ : (s.mems.getD j []).length - (k + 1) < (s.mems.getD j []).length - k)⟩⟩
               · exact ⟨by omega,br h5 (by simpa using hc89)⟩
               · omega
           · refine tt ⟨w6,tt ⟨(j + 1),rfl,?_,(?_ : s.mems.length - (j + 1) < s.mems.length - j)⟩⟩
             · exact ⟨by omega,br h4 (It (by omega) (fun z hz => h5 z (by omega)))⟩
             · omega
       · refine tt ⟨?_,oK⟩
         first | exact (ii (by omega)).symm | exact (ij (by omega)).symm | exact (ik (i := i) (by omega) (by simpa using hc43)).symm | exact (cL (i := j) (by omega) (mV (by omega))).symm | exact (cL (i := j) (by omega) (mW (j := k) (by omega) (by simpa using hc89))).symm | exact (il (by omega) (by omega) (fun z hz => h3 z (by omega)) (fun z hz => h4 z (by omega))).symm
 · refine tt ⟨(nT hs0),tt ⟨?_,oK⟩⟩
   first | exact (ii (by omega)).symm | exact (ij (by omega)).symm | exact (ik (i := i) (by omega) (by simpa using hc43)).symm | exact (cL (i := j) (by omega) (mV (by omega))).symm | exact (cL (i := j) (by omega) (mW (j := k) (by omega) (by simpa using hc89))).symm | exact (il (by omega) (by omega) (fun z hz => h3 z (by omega)) (fun z hz => h4 z (by omega))).symm
abbrev Nq (p : Pr) : Ct := ⟨73,[(DD p)],true,(.agg [(LI ((aV p).regs)),(dL 1 ac [] ((aV p).mems))])⟩
abbrev np (p : Pr) : Lp (Nat) := fG [1,2,3,4] 4 (fun (i : Nat) => ⟨[(1,jr),(2,(.ptr 1 0 0 0)),(3,(.ptr 2 0 0 0)),(4,(i6 (i : Int)))],[(oB p),(.var 112 [.nils,.nils]),(.var 112 [(.own 3),.nils]),(.arr 3 1 (ae .i64) 0 (tab (fun z => (p.regs.getD z bJ).init) i))]⟩) (fun (i : Nat) => i ≤ p.regs.length) (fun (i : Nat) => p.regs.length - i)
abbrev nq (p : Pr) (i : Nat) : Lp (Nat) := fG [1,2,3,5] 5 (fun (j : Nat) => ⟨[(1,jr),(2,(.ptr 1 0 0 0)),(3,(.ptr 2 0 0 0)),(5,(i6 (j : Int)))],[(oB p),(.var 112 [.nils,.nils]),(.var 112 [(.own 3),(.own 4)]),(.arr 3 1 (ae .i64) 0 (tab (fun z => (p.regs.getD z bJ).init) i)),(.arr 28 1 ac [] (tab (fun z => List.replicate (p.mems.getD z aK).words.toNat (0 : Int)) j))]⟩) (fun (j : Nat) => j ≤ p.mems.length) (fun (j : Nat) => p.mems.length - j)
theorem E9 (p : Pr) (hp : gm p) : CC (Nq p) := by
 have hl1 := hp.rl
 have hl2 := hp.ml
 refine af.vc (V := TT 6 (GO (np p) 0 (∀ i,(np p).inv i → TT 5 (CD ((i : Int) < (p.regs.length : Int)) (TT 5 (IX (i : Int) p.regs.length∧TT 2 (an [[(i6 ((p.regs.getD i bJ).init))]] ([(p.regs.getD i bJ).init].map (ae .i64))∧((tab (fun z => (p.regs.getD z bJ).init) i).length + ([(p.regs.getD i bJ).init].map (ae .i64)).length ≤ 137438953472∧(tab (fun z => (p.regs.getD z bJ).init) i).map (ae .i64) ++ [(p.regs.getD i bJ).init].map (ae .i64) = (tab (fun z => (p.regs.getD z bJ).init) (i + 1)).map (ae .i64))∧TT 3 (W6 ((i + 1 : Nat) : Int)∧TT 1 (AG (np p) i (i + 1)))))) (TT 1 (GO (nq p i) 0 (∀ j,(nq p i).inv j → TT 5 (CD ((j : Int) < (p.mems.length : Int)) (TT 5 (IX (j : Int) p.mems.length∧TT 2 ((((0 : Int) ≤ (p.mems.getD j aK).words∧(p.mems.getD j aK).words ≤ (p.mems.getD j aK).words∧(p.mems.getD j aK).words ≤ 137438953472)∧(List.replicate (p.mems.getD j aK).words.toNat (0 : Int)).length = ((p.mems.getD j aK).words).toNat∧∀ x ∈ (List.replicate (p.mems.getD j aK).words.toNat (0 : Int)),cP [(i6 0)] ((ae .i64) x))∧an [[(LI (List.replicate (p.mems.getD j aK).words.toNat (0 : Int)))]] ([List.replicate (p.mems.getD j aK).words.toNat (0 : Int)].map ac)∧((tab (fun z => List.replicate (p.mems.getD z aK).words.toNat (0 : Int)) j).length + ([List.replicate (p.mems.getD j aK).words.toNat (0 : Int)].map ac).length ≤ 137438953472∧(tab (fun z => List.replicate (p.mems.getD z aK).words.toNat (0 : Int)) j).map ac ++ [List.replicate (p.mems.getD j aK).words.toNat (0 : Int)].map ac = (tab (fun z => List.replicate (p.mems.getD z aK).words.toNat (0 : Int)) (j + 1)).map ac)∧TT 3 (W6 ((j + 1 : Nat) : Int)∧TT 1 (AG (nq p i) j (j + 1)))))) (TT 3 ((tab (fun z => (p.regs.getD z bJ).init) i).map (ae .i64) = ((aV p).regs).map (ae .i64)∧(tab (fun z => List.replicate (p.mems.getD z aK).words.toNat (0 : Int)) j).map ac = ((aV p).mems).map ac∧True)))))))))) (.g 2 2 0 3 1 (ae .i64) 0 <| .l (np p) 0 (fun i => .b 11 (.w 5 [(8,.box 3 1 (ae .i64) 0 [(p.regs.getD i bJ).init]),(9,.box 3 1 (ae .i64) 0 (tab (fun z => (p.regs.getD z bJ).init) (i + 1)))] <| .w 4 [(1,.val (i6 ((i + 1 : Nat) : Int)))] <| .e) (.g 6 2 1 28 1 ac [] <| .l (nq p i) 0 (fun j => .b 29 (.w 9 [(8,.frz 3 1 (ae .i64) 0 (List.replicate (p.mems.getD j aK).words.toNat (0 : Int))),(9,.box 28 1 ac [] [List.replicate (p.mems.getD j aK).words.toNat (0 : Int)]),(10,.box 28 1 ac [] (tab (fun z => List.replicate (p.mems.getD z aK).words.toNat (0 : Int)) (j + 1)))] <| .w 8 [(1,.val (i6 ((j + 1 : Nat) : Int)))] <| .e) (.e))))) Tryz.func73 rfl rfl rfl (by kernel_rfl) ?_
 refine tt ⟨rfl,(by omega),?_⟩
 intro i hinv
 have hi := hinv
 refine tt (cd (fun hc11 => ?_) (fun hc11 => ?_))
 · refine tt ⟨ix,tt ⟨⟨⟨rfl,oK⟩,oK⟩,⟨(f9 (f := fun z => (p.regs.getD z bJ).init) (by omega)),tt ⟨w6,tt ⟨(i + 1),rfl,(?_ : (i + 1) ≤ p.regs.length),(?_ : p.regs.length - (i + 1) < p.regs.length - i)⟩⟩⟩⟩⟩
   · omega
   · omega
 · refine tt ⟨rfl,(by omega),?_⟩
   intro j hinv
   have hj := hinv
   refine tt (cd (fun hc29 => ?_) (fun hc29 => ?_))
   · have hmw : 1 ≤ (p.mems.getD j aK).words∧(p.mems.getD j aK).words ≤ 4 := (hp.mw j (by omega)).2.1
     refine tt ⟨ix,tt ⟨⟨by omega,List.length_replicate,fun x hx => by rw [List.eq_of_mem_replicate hx]; exact ⟨rfl,oK⟩⟩,⟨⟨⟨rfl,oK⟩,oK⟩,⟨(f9 (f := fun z => List.replicate (p.mems.getD z aK).words.toNat (0 : Int)) (by omega)),tt ⟨w6,tt ⟨(j + 1),rfl,(?_ : (j + 1) ≤ p.mems.length),(?_ : p.mems.length - (j + 1) < p.mems.length - j)⟩⟩⟩⟩⟩⟩
     · omega
     · omega
   · refine tt ⟨(congrArg _ (?_ : (tab (fun z => (p.regs.getD z bJ).init) i) = ((aV p).regs))),(congrArg _ (?_ : (tab (fun z => List.replicate (p.mems.getD z aK).words.toNat (0 : Int)) j) = ((aV p).mems))),oK⟩
     · rw [qh,show i = p.regs.length by omega]
     · rw [qh,show j = p.mems.length by omega]
abbrev mu (p : Pr) (s : Ps) (data : List Int) (n : Nat) (e : Ex) : Ct := ⟨107,[(Ho p s data),(.agg [(i6 e.op),(dS e.name),(i6 e.k.n),(dS e.k.p),(i6 e.w.n),(dS e.w.p),(dL 7 (eA n) dE e.args)])],false,(.agg [(i6 ((a8 p s data e).1)),(i6 ((a8 p s data e).2))])⟩
abbrev tL (p : Pr) (s : Ps) (data : List Int) (n : Nat) (e : Ex) : Lp (Nat) := fG [2,3,4,7,8,9] 5 (fun (i : Nat) => ⟨[(2,jr),(3,(.ptr 1 0 0 0)),(4,(.ptr 2 0 0 0)),(7,(.own 3)),(8,(.own 4)),(9,(i6 (i : Int)))],[(Hn p s data),(.var 74 [(i6 e.op),(dS e.name),(i6 e.k.n),(dS e.k.p),(i6 e.w.n),(dS e.w.p),(dL 7 (eA (n + 1)) dE e.args)]),(.var 210 [(i6 0),(i6 0)]),(.arr 3 1 (ae .i64) 0 (eN p s data (e.args.take i))),(.arr 3 1 (ae .i64) 0 (cS p s data (e.args.take i)))]⟩) (fun (i : Nat) => i ≤ e.args.length) (fun (i : Nat) => e.args.length - i)
theorem DF (p : Pr) (s : Ps) (data : List Int) (n : Nat) (e : Ex) (c : Sc) (v : Int) (ho : rL c p s data) (ht : eT c e = some v) (hmw : ∀ i,i < p.mems.length → ((s.mems.getD i []).length : Int) = (p.mems.getD i aK).words) (ih : ∀ a ∈ e.args,CC (mu p s data n a)) : CC (mu p s data (n + 1) e) := by
 have hal := Gr ht
 refine af.vc (V := TT 7 (CD (e.op = 16) (TT 6 (IX e.k.n s.regs.length∧TT 7 (IX e.k.n p.regs.length∧TT 5 ((((s.regs.getD e.k.n.toNat 0) = ((a8 p s data e).1)∧((p.regs.getD e.k.n.toNat bJ).w) = ((a8 p s data e).2)∧True))∧((True∧True∧True)))))) (TT 2 (CD (e.op = 17) (TT 6 (IX e.k.n p.mems.length∧TT 6 (IX 0 e.args.length∧TT 1 (CC (mu p s data n (e.args.getD 0 dE))∧TT 8 (IX e.k.n s.mems.length∧TT 5 ((((p.mems.getD e.k.n.toNat aK).words) ≠ 0∧(Int.tmod ((a8 p s data (e.args.getD 0 dE)).1) ((p.mems.getD e.k.n.toNat aK).words)) = (Int.tmod (a8 p s data (e.args.getD 0 dE)).1 ((s.mems.getD e.k.n.toNat []).length : Int)))∧IX (Int.tmod (a8 p s data (e.args.getD 0 dE)).1 ((s.mems.getD e.k.n.toNat []).length : Int)) ((s.mems.getD e.k.n.toNat []).length)∧TT 6 (((((s.mems.getD e.k.n.toNat []).getD ((Int.tmod (a8 p s data (e.args.getD 0 dE)).1 ((s.mems.getD e.k.n.toNat []).length : Int)).toNat) 0) = ((a8 p s data e).1)∧((p.mems.getD e.k.n.toNat aK).w) = ((a8 p s data e).2)∧True))∧((True∧True∧True))))))))) (TT 2 (CD (e.op = 18) (TT 5 (IX e.k.n data.length∧TT 7 (IX e.k.n p.takes.length∧TT 5 ((((data.getD e.k.n.toNat 0) = ((a8 p s data e).1)∧((p.takes.getD e.k.n.toNat bK).w) = ((a8 p s data e).2)∧True))∧((True∧True∧True)))))) (an [] ((eN p s data (e.args.take 0)).map (ae .i64))∧an [] ((cS p s data (e.args.take 0)).map (ae .i64))∧TT 3 (GO (tL p s data n e) 0 (∀ i,(tL p s data n e).inv i → TT 5 (CD ((i : Int) < (e.args.length : Int)) (TT 4 (IX (i : Int) e.args.length∧TT 1 (CC (mu p s data n (e.args.getD i dE))∧TT 5 (an [[(i6 ((a8 p s data (e.args.getD i dE)).1))]] ([(a8 p s data (e.args.getD i dE)).1].map (ae .i64))∧((eN p s data (e.args.take i)).length + ([(a8 p s data (e.args.getD i dE)).1].map (ae .i64)).length ≤ 137438953472∧(eN p s data (e.args.take i)).map (ae .i64) ++ [(a8 p s data (e.args.getD i dE)).1].map (ae .i64) = (eN p s data (e.args.take (i + 1))).map (ae .i64))∧TT 4 (an [[(i6 ((a8 p s data (e.args.getD i dE)).2))]] ([(a8 p s data (e.args.getD i dE)).2].map (ae .i64))∧((cS p s data (e.args.take i)).length + ([(a8 p s data (e.args.getD i dE)).2].map (ae .i64)).length ≤ 137438953472∧(cS p s data (e.args.take i)).map (ae .i64) ++ [(a8 p s data (e.args.getD i dE)).2].map (ae .i64) = (cS p s data (e.args.take (i + 1))).map (ae .i64))∧TT 2 (W6 ((i + 1 : Nat) : Int)∧TT 1 (AG (tL p s data n e) i (i + 1)))))))) (TT 10 (CK (Hl e.op (cS p s data (e.args.take i)) e.k.n e.w.n)∧TT 12 (an [[(i6 e.k.n)],[(i6 e.w.n)]] ([e.k.n,e.w.n].map (ae .i64))∧TT 1 (CK (KD e.op (cS p s data (e.args.take i)) (eN p s data (e.args.take i)) [e.k.n,e.w.n])∧TT 9 ((((cz e.op (cS p s data (e.args.take i)) (eN p s data (e.args.take i)) [e.k.n,e.w.n]) = ((a8 p s data e).1)∧(bS e.op (cS p s data (e.args.take i)) e.k.n e.w.n) = ((a8 p s data e).2)∧True))∧((True∧True∧True))))))))))))))))) (.b 15 (.e) (.b 35 (.w 6 [(5,(mu p s data n (e.args.getD 0 dE)).O)] <| .w 7 [(12,.val (i6 (Int.tmod (a8 p s data (e.args.getD 0 dE)).1 ((s.mems.getD e.k.n.toNat []).length : Int))))] <| .e) (.b 69 (.e) (.w 10 [(0,.box 3 1 (ae .i64) 0 (eN p s data (e.args.take 0))),(1,.box 3 1 (ae .i64) 0 (cS p s data (e.args.take 0)))] <| .l (tL p s data n e) 0 (fun i => .b 94 (.w 14 [(6,(mu p s data n (e.args.getD i dE)).O)] <| .w 15 [(3,.box 3 1 (ae .i64) 0 [(a8 p s data (e.args.getD i dE)).1]),(4,.box 3 1 (ae .i64) 0 (eN p s data (e.args.take (i + 1))))] <| .w 16 [(3,.box 3 1 (ae .i64) 0 [(a8 p s data (e.args.getD i dE)).2]),(4,.box 3 1 (ae .i64) 0 (cS p s data (e.args.take (i + 1))))] <| .w 13 [(1,.val (i6 ((i + 1 : Nat) : Int)))] <| .e) (.w 17 [(10,(Hl e.op (cS p s data (e.args.take i)) e.k.n e.w.n).O')] <| .w 18 [(10,.box 3 1 (ae .i64) 0 [e.k.n,e.w.n]),(12,(KD e.op (cS p s data (e.args.take i)) (eN p s data (e.args.take i)) [e.k.n,e.w.n]).O')] <| .e)))))) Tryz.func107 rfl rfl rfl (by kernel_rfl) ?_
 refine tt (cd (fun hc15 => ?_) (fun hc15 => ?_))
 · obtain ⟨h1,h2,h3⟩ := Gs ho ht hc15
   refine tt ⟨ix,tt ⟨ix,tt ⟨⟨?_,?_,oK⟩,⟨oK,oK,oK⟩⟩⟩⟩
   all_goals (first | exact (eM hc15).1.symm | exact (eM hc15).2.symm | exact (db hc69).1.symm | exact (db hc69).2.symm | exact (dc hc35 hlen).1.symm | exact (dc hc35 hlen).2.symm | (rw [hie,List.take_length]; exact (gQ hc15 hc69 hc35).1.symm) | (rw [hie,List.take_length]; exact (gQ hc15 hc69 hc35).2.symm))
 · refine tt (cd (fun hc35 => ?_) (fun hc35 => ?_))
   · obtain ⟨h1,h2,h3,hlen,h4,h5,h6⟩ := CM ho ht hc35
     have hpw : (p.mems.getD e.k.n.toNat aK).words = ((s.mems.getD e.k.n.toNat []).length : Int) := (hmw _ (by omega)).symm
     have hz : (s.mems.getD e.k.n.toNat []).length ≠ 0 := by omega
     refine tt ⟨ix,tt ⟨ix,tt ⟨(ih _ (ic (by omega))),tt ⟨ix,tt ⟨⟨(by omega),(by rw [hpw])⟩,⟨ix,tt ⟨⟨?_,?_,oK⟩,⟨oK,oK,oK⟩⟩⟩⟩⟩⟩⟩⟩
     all_goals (first | exact (eM hc15).1.symm | exact (eM hc15).2.symm | exact (db hc69).1.symm | exact (db hc69).2.symm | exact (dc hc35 hlen).1.symm | exact (dc hc35 hlen).2.symm | (rw [hie,List.take_length]; exact (gQ hc15 hc69 hc35).1.symm) | (rw [hie,List.take_length]; exact (gQ hc15 hc69 hc35).2.symm))
   · refine tt (cd (fun hc69 => ?_) (fun hc69 => ?_))
     · obtain ⟨h1,h2,h3⟩ := CL ho ht hc69
       refine tt ⟨ix,tt ⟨ix,tt ⟨⟨?_,?_,oK⟩,⟨oK,oK,oK⟩⟩⟩⟩
       all_goals (first | exact (eM hc15).1.symm | exact (eM hc15).2.symm | exact (db hc69).1.symm | exact (db hc69).2.symm | exact (dc hc35 hlen).1.symm | exact (dc hc35 hlen).2.symm | (rw [hie,List.take_length]; exact (gQ hc15 hc69 hc35).1.symm) | (rw [hie,List.take_length]; exact (gQ hc15 hc69 hc35).2.symm))
     · refine ⟨oK,⟨oK,tt ⟨rfl,(by omega),?_⟩⟩⟩
       intro i hinv
       have hi := hinv
       refine tt (cd (fun hc94 => ?_) (fun hc94 => ?_))
       · refine tt ⟨ix,tt ⟨(ih _ (ic (by omega))),tt ⟨⟨⟨rfl,oK⟩,oK⟩,⟨⟨by simp only [List.length_map,List.length_cons,List.length_nil]; rw [uX,List.length_take]; omega,by rw [xd (by omega),List.map_append]⟩,tt ⟨⟨⟨rfl,oK⟩,oK⟩,⟨⟨by simp only [List.length_map,List.length_cons,List.length_nil]; rw [qc,List.length_take]; omega,by rw [xe (by omega),List.map_append]⟩,tt ⟨w6,tt ⟨(i + 1),rfl,(?_ : (i + 1) ≤ e.args.length),(?_ : e.args.length - (i + 1) < e.args.length - i)⟩⟩⟩⟩⟩⟩⟩⟩
         · omega
         · omega
       · have hie : i = e.args.length := by omega
         have hev := GI ho ht hc15 hc35 hc69
         have hev1 : gj e.op (cS p s data (e.args.take i)) e.k.n e.w.n = true := by rw [hie,List.take_length]; exact hev.1
         have hev2 : zV (cS p s data (e.args.take i)) (eN p s data (e.args.take i)) = true := by rw [hie,List.take_length]; exact hev.2
         refine tt ⟨⟨cR _ rfl,(vE e.op (cS p s data (e.args.take i)) e.k.n e.w.n hev1)⟩,tt ⟨⟨⟨rfl,oK⟩,⟨rfl,oK⟩,oK⟩,tt ⟨⟨cR _ rfl,(BZ e.op (cS p s data (e.args.take i)) (eN p s data (e.args.take i)) [e.k.n,e.w.n] hev1 (by rw [uX,qc]) hev2 rfl)⟩,tt ⟨⟨?_,?_,oK⟩,⟨oK,oK,oK⟩⟩⟩⟩⟩
         all_goals (first | exact (eM hc15).1.symm | exact (eM hc15).2.symm | exact (db hc69).1.symm | exact (db hc69).2.symm | exact (dc hc35 hlen).1.symm | exact (dc hc35 hlen).2.symm | (rw [hie,List.take_length]; exact (gQ hc15 hc69 hc35).1.symm) | (rw [hie,List.take_length]; exact (gQ hc15 hc69 hc35).2.symm))
theorem kh {c : Sc} {p : Pr} {s : Ps} {data : List Int} (ho : rL c p s data) (hmw : ∀ i,i < p.mems.length → ((s.mems.getD i []).length : Int) = (p.mems.getD i aK).words) : ∀ (n : Nat) (e : Ex) (v : Int),eT c e = some v → fF e ≤ n + 1 → CC (mu p s data n e)
  | 0,e,v,ht,hd => by
    have ha : e.args = [] := by
      cases hl : e.args with
      | nil => rfl
      | cons a r =>
        have := tu (e := e) (a := a) (by rw [hl]; simp)
        cases a with | mk op name k w args => rw [fF] at this; omega
    have h := DF p s data 0 e c v ho ht hmw (fun a h => by rw [ha] at h; cases h)
    refine af.recast ?_ h
    refine ⟨uQ _ rfl,⟨rfl,rfl,rfl,rfl,rfl,rfl,?_,oK⟩,oK⟩
    show e.args.map (eA 0) = e.args.map (eA 1)
    rw [ha]; rfl
  | n + 1,e,v,ht,hd => DF p s data n e c v ho ht hmw (fun a h => by
    obtain ⟨w,hw⟩ := Gq ht h
    exact kh ho hmw n a w hw (by have := tu h; omega))
abbrev pp (p : Pr) (s : Ps) (data : List Int) (e : Ex) : Ct := ⟨105,[(Ho p s data),(.agg [(i6 e.op),(dS e.name),(i6 e.k.n),(dS e.k.p),(i6 e.w.n),(dS e.w.p),(dL 7 (eA 2) dE e.args)])],false,(dB (dM p s data e))⟩
theorem vG (p : Pr) (s : Ps) (data : List Int) (e : Ex) {c : Sc} {v : Int} (ho : rL c p s data) (hmw : ∀ i,i < p.mems.length → ((s.mems.getD i []).length : Int) = (p.mems.getD i aK).words) (ht : eT c e = some v) (hd : fF e ≤ 3) : CC (pp p s data e) := by
 refine af.vc (V := TT 5 (CC (mu p s data 2 e)∧TT 4 ((((a8 p s data e).1) == 1) = (dM p s data e)∧True))) (.w 1 [(2,(mu p s data 2 e).O)] <| .e) Tryz.func105 rfl rfl rfl (by kernel_rfl) ?_
 refine tt ⟨(kh ho hmw 2 e _ ht hd),tt ⟨?_,oK⟩⟩
 rfl
abbrev KE (p : Pr) (s : Ps) (hs : List Hd) (rs : List Bool) : Ct := ⟨104,[(DD p),(.agg (mt s)),(.agg [(dL 2 bR aW hs),(LB rs)])],true,(.agg [(dS p.name),(dS p.clock),(dL 13 jj bJ p.regs),(dL 27 qX aK p.mems),(dL 9 jW bK p.takes),(dL 16 ib bp p.puts),(LI s.regs),(dL 1 ac [] s.mems),(LI (bO p s hs))])⟩
abbrev fV (p : Pr) (s : Ps) (hs : List Hd) (rs : List Bool) : Lp (Nat × List Int) := we [3,5,6,7,8,9] 20 (fun (i : Nat) (dat : List Int) => ⟨[(3,jr),(5,(.ptr 2 0 0 0)),(6,(.ptr 3 0 0 0)),(7,(.ptr 11 0 0 0)),(8,(.ptr 19 0 0 0)),(9,(i6 (i : Int)))],[(oB p),(.var 112 (mt s)),(.var 196 [(dL 2 bR aW hs),(LB rs)]),(.var 205 [(dS e0),(dS e0),.nils,.nils,.nils,.nils,.nils,.nils,.nils]),.dead,.dead,.dead,.dead,.dead,.dead,.dead,(.var 205 [(dS p.name),(dS p.clock),(dL 13 jj bJ p.regs),(dL 27 qX aK p.mems),(dL 9 jW bK p.takes),(dL 16 ib bp p.puts),(LI s.regs),(dL 1 ac [] s.mems),(LI (iL p))]),.dead,.dead,.dead,.dead,.dead,(.arr 3 1 (ae .i64) 0 dat),.dead,(.var 205 [(dS p.name),(dS p.clock),(dL 13 jj bJ p.regs),(dL 27 qX aK p.mems),(dL 9 jW bK p.takes),(dL 16 ib bp p.puts),(LI s.regs),(dL 1 ac [] s.mems),(.own 17)])]⟩) (fun (i : Nat) (dat : List Int) => i ≤ p.takes.length∧dat = cJ (lG p s hs) (iL p) i) (fun (i : Nat) (dat : List Int) => p.takes.length - i)
theorem B1 (p : Pr) (s : Ps) (hs : List Hd) (rs : List Bool) (hp : gm p) (hso : oZ p s) (hh : z6 p hs) : CC (KE p s hs rs) := by
 have ht1 := hp.tl
 have ht2 := hp.pl
 have hhl := hh.l
 have hmw := hso.mn
 have ho := gr hp hso (JB hp)
 refine af.vc (V := TT 9 ((((0 : Int) ≤ (p.takes.length : Int)∧(p.takes.length : Int) ≤ (p.takes.length : Int)∧(p.takes.length : Int) ≤ 137438953472)∧(iL p).length = p.takes.length∧∀ x ∈ (iL p),cP [(i6 0)] ((ae .i64) x))∧TT 8 ((((0 : Int) ≤ (p.takes.length : Int)∧(p.takes.length : Int) ≤ (p.takes.length : Int)∧(p.takes.length : Int) ≤ 137438953472)∧(iL p).length = p.takes.length∧∀ x ∈ (iL p),cP [(i6 0)] ((ae .i64) x))∧TT 4 (GO (fV p s hs rs) (0,iL p) (∀ i dat,(fV p s hs rs).inv (i,dat) → TT 5 (CD ((i : Int) < (p.takes.length : Int)) (CS ((dM p s (iL p) ((p.takes.getD i bK).when)) = true) (TT 4 (IX (i : Int) p.takes.length∧TT 2 (CC (pp p s (iL p) ((p.takes.getD i bK).when))∧(True∧(dM p s (iL p) ((p.takes.getD i bK).when)) = true)∧TT 3 (IX (i : Int) hs.length∧TT 3 (CB ((hs.getD i aW).has) (TT 6 (IX (i : Int) hs.length∧TT 2 (IX (i : Int) dat.length∧(i < dat.length∧(dat.map (ae .i64)).set i (((ae .i64) (dat.getD i 0)).take 0 ++ [(.int .i64 ((hs.getD i aW).v))] ++ ((ae .i64) (dat.getD i 0)).drop (0 + 1)) = (dat.set i ((hs.getD i aW).v)).map (ae .i64))∧TT 1 (W6 ((i + 1 : Nat) : Int)∧TT 1 (AG (fV p s hs rs) (i,dat) (i + 1,dat.set i ((hs.getD i aW).v))))))) (TT 1 (W6 ((i + 1 : Nat) : Int)∧TT 1 (AG (fV p s hs rs) (i,dat) (i + 1,dat))))))))) (TT 4 (IX (i : Int) p.takes.length∧TT 2 (CC (pp p s (iL p) ((p.takes.getD i bK).when))∧(True∧(dM p s (iL p) ((p.takes.getD i bK).when)) = false)∧TT 2 (W6 ((i + 1 : Nat) : Int)∧TT 1 (AG (fV p s hs rs) (i,dat) (i + 1,dat))))))) (TT 3 (p.name = p.name∧p.clock = p.clock∧p.regs.map jj = p.regs.map jj∧p.mems.map qX = p.mems.map qX∧p.takes.map jW = p.takes.map jW∧p.puts.map ib = p.puts.map ib∧s.regs.map (ae .i64) = s.regs.map (ae .i64)∧s.mems.map ac = s.mems.map ac∧dat.map (ae .i64) = (bO p s hs).map (ae .i64)∧True)))))))) (.w 1 [(5,.frz 3 1 (ae .i64) 0 (iL p))] <| .w 2 [(5,.box 3 1 (ae .i64) 0 (iL p))] <| .l (fV p s hs rs) (0,iL p) (fun ⟨i,dat⟩ => .b 28 (.s 6 ((dM p s (iL p) ((p.takes.getD i bK).when)) = true) (.w 6 [(7,(pp p s (iL p) ((p.takes.getD i bK).when)).O),(8,.val (dB true))] <| .b 46 (.w 7 [(10,.box 3 1 (ae .i64) 0 (dat.set i ((hs.getD i aW).v)))] <| .w 5 [(1,.val (i6 ((i + 1 : Nat) : Int)))] <| .e) (.w 5 [(1,.val (i6 ((i + 1 : Nat) : Int)))] <| .e)) (.w 6 [(7,(pp p s (iL p) ((p.takes.getD i bK).when)).O),(8,.val (dB false))] <| .w 5 [(1,.val (i6 ((i + 1 : Nat) : Int)))] <| .e)) (.e))) Tryz.func104 rfl rfl rfl (by kernel_rfl) ?_
 refine tt ⟨⟨by omega,eu,fun x hx => by rw [List.eq_of_mem_replicate hx]; exact ⟨rfl,oK⟩⟩,tt ⟨⟨by omega,eu,fun x hx => by rw [List.eq_of_mem_replicate hx]; exact ⟨rfl,oK⟩⟩,tt ⟨rfl,⟨by omega,rfl⟩,?_⟩⟩⟩
 intro i dat hinv
 obtain ⟨hi,hdat⟩ := hinv
 have hdl : dat.length = p.takes.length := by rw [hdat,er (by rw [eu]; exact hi),eu]
 refine tt (cd (fun hc28 => ?_) (fun hc28 => ?_))
 · have hwh := tx hp (show i < p.takes.length by omega)
   refine ⟨fun hs0 => ?_,fun hs0 => ?_⟩
   · refine tt ⟨ix,tt ⟨(vG p s (iL p) ((p.takes.getD i bK).when) ho hmw hwh.1 hwh.2),⟨(bT hs0),tt ⟨ix,tt ⟨fun hc46 => ?_,fun hc46 => ?_⟩⟩⟩⟩⟩
     · refine tt ⟨ix,tt ⟨ix,⟨⟨om,by simp only [List.map_set]; rfl⟩,tt ⟨w6,tt ⟨(i + 1,dat.set i ((hs.getD i aW).v)),rfl,?_,(?_ : p.takes.length - (i + 1) < p.takes.length - i)⟩⟩⟩⟩⟩
       · exact ⟨by omega,by rw [hdat]; exact cb (by rw [eu]; omega) (Iu hs0 hc46)⟩
       · omega
     · refine tt ⟨w6,tt ⟨(i + 1,dat),rfl,?_,(?_ : p.takes.length - (i + 1) < p.takes.length - i)⟩⟩
       · exact ⟨by omega,by rw [hdat]; exact cf (by rw [eu]; omega) (by first | exact C0 (by assumption) | exact C2 (by rw [hc46]; simp))⟩
       · omega
   · refine tt ⟨ix,tt ⟨(vG p s (iL p) ((p.takes.getD i bK).when) ho hmw hwh.1 hwh.2),⟨(bF hs0),tt ⟨w6,tt ⟨(i + 1,dat),rfl,?_,(?_ : p.takes.length - (i + 1) < p.takes.length - i)⟩⟩⟩⟩⟩
     · exact ⟨by omega,by rw [hdat]; exact cf (by rw [eu]; omega) (by first | exact C0 (by assumption) | exact C2 (by rw [hc46]; simp))⟩
     · omega
 · refine tt ⟨rfl,rfl,rfl,rfl,rfl,rfl,rfl,rfl,(congrArg _ (?_ : dat = (bO p s hs))),oK⟩
   rw [hdat,show i = p.takes.length by omega,dk (by rw [eu]; exact Nat.le_refl _)]; rfl
abbrev KF (p : Pr) (s : Ps) (data : List Int) : Ct := ⟨106,[(Ho p s data)],true,(.agg [(LI ((co p s data).regs)),(dL 1 ac [] ((co p s data).mems))])⟩
abbrev qJ (p : Pr) (s : Ps) (data : List Int) : Lp (Nat) := fG [1,2,3,4] 4 (fun (i : Nat) => ⟨[(1,jr),(2,(.ptr 1 0 0 0)),(3,(.ptr 2 0 0 0)),(4,(i6 (i : Int)))],[(Hn p s data),(.var 112 [.nils,.nils]),(.var 112 [(.own 3),.nils]),(.arr 3 1 (ae .i64) 0 (tab (fun z => (a8 p s data (p.regs.getD z bJ).next).1) i))]⟩) (fun (i : Nat) => i ≤ p.regs.length) (fun (i : Nat) => p.regs.length - i)
abbrev my (p : Pr) (s : Ps) (data : List Int) (i : Nat) : Lp (Nat) := fG [1,2,3,5] 5 (fun (j : Nat) => ⟨[(1,jr),(2,(.ptr 1 0 0 0)),(3,(.ptr 2 0 0 0)),(5,(i6 (j : Int)))],[(Hn p s data),(.var 112 [.nils,.nils]),(.var 112 [(.own 3),(.own 4)]),(.arr 3 1 (ae .i64) 0 (tab (fun z => (a8 p s data (p.regs.getD z bJ).next).1) i)),(.arr 28 1 ac [] (tab (qY p s data) j))]⟩) (fun (j : Nat) => j ≤ p.mems.length) (fun (j : Nat) => p.mems.length - j)
theorem Hp (p : Pr) (s : Ps) (data : List Int) (hp : gm p) (hso : oZ p s) (hda : z5 p data) : CC (KF p s data) := by
 have hl1 := hp.rl
 have hl2 := hp.ml
 have hmw := hso.mn
 have ho := gr hp hso hda
 have hsl := hso.ml
 refine af.vc (V := TT 6 (GO (qJ p s data) 0 (∀ i,(qJ p s data).inv i → TT 6 (CD ((i : Int) < (p.regs.length : Int)) (TT 7 (IX (i : Int) p.regs.length∧TT 2 (CC (mu p s data 2 ((p.regs.getD i bJ).next))∧TT 1 (an [[(i6 ((a8 p s data ((p.regs.getD i bJ).next)).1))]] ([(a8 p s data ((p.regs.getD i bJ).next)).1].map (ae .i64))∧((tab (fun z => (a8 p s data (p.regs.getD z bJ).next).1) i).length + ([(a8 p s data ((p.regs.getD i bJ).next)).1].map (ae .i64)).length ≤ 137438953472∧(tab (fun z => (a8 p s data (p.regs.getD z bJ).next).1) i).map (ae .i64) ++ [(a8 p s data ((p.regs.getD i bJ).next)).1].map (ae .i64) = (tab (fun z => (a8 p s data (p.regs.getD z bJ).next).1) (i + 1)).map (ae .i64))∧TT 3 (W6 ((i + 1 : Nat) : Int)∧TT 1 (AG (qJ p s data) i (i + 1))))))) (TT 1 (GO (my p s data i) 0 (∀ j,(my p s data i).inv j → TT 6 (CD ((j : Int) < (p.mems.length : Int)) (TT 4 (IX (j : Int) p.mems.length∧TT 3 (an [] (([] : List Int).map (ae .i64))∧TT 4 (IX (j : Int) s.mems.length∧TT 1 ((([] : List Int).length + ((s.mems.getD j []).map (ae .i64)).length ≤ 137438953472∧([] : List Int).map (ae .i64) ++ (s.mems.getD j []).map (ae .i64) = (s.mems.getD j []).map (ae .i64))∧TT 4 (CC (pp p s data ((p.mems.getD j aK).enable))∧CB (dM p s data ((p.mems.getD j aK).enable)) (TT 4 (CC (mu p s data 2 ((p.mems.getD j aK).addr))∧TT 3 (((p.mems.getD j aK).words) ≠ 0∧TT 3 (CC (mu p s data 2 ((p.mems.getD j aK).data))∧TT 1 (IX (Int.tmod ((a8 p s data ((p.mems.getD j aK).addr)).1) ((p.mems.getD j aK).words)) ((s.mems.getD j []).length)∧((Int.tmod ((a8 p s data ((p.mems.getD j aK).addr)).1) ((p.mems.getD j aK).words)).toNat < (s.mems.getD j []).length∧((s.mems.getD j []).map (ae .i64)).set ((Int.tmod ((a8 p s data ((p.mems.getD j aK).addr)).1) ((p.mems.getD j aK).words)).toNat) (((ae .i64) ((s.mems.getD j []).getD ((Int.tmod ((a8 p s data ((p.mems.getD j aK).addr)).1) ((p.mems.getD j aK).words)).toNat) 0)).take 0 ++ [(.int .i64 ((a8 p s data ((p.mems.getD j aK).data)).1))] ++ ((ae .i64) ((s.mems.getD j []).getD ((Int.tmod ((a8 p s data ((p.mems.getD j aK).addr)).1) ((p.mems.getD j aK).words)).toNat) 0)).drop (0 + 1)) = ((s.mems.getD j []).set ((Int.tmod ((a8 p s data ((p.mems.getD j aK).addr)).1) ((p.mems.getD j aK).words)).toNat) ((a8 p s data ((p.mems.getD j aK).data)).1)).map (ae .i64))∧TT 3 (an [[(LI ((s.mems.getD j []).set ((Int.tmod ((a8 p s data ((p.mems.getD j aK).addr)).1) ((p.mems.getD j aK).words)).toNat) ((a8 p s data ((p.mems.getD j aK).data)).1)))]] ([(s.mems.getD j []).set ((Int.tmod ((a8 p s data ((p.mems.getD j aK).addr)).1) ((p.mems.getD j aK).words)).toNat) ((a8 p s data ((p.mems.getD j aK).data)).1)].map ac)∧((tab (qY p s data) j).length + ([(s.mems.getD j []).set ((Int.tmod ((a8 p s data ((p.mems.getD j aK).addr)).1) ((p.mems.getD j aK).words)).toNat) ((a8 p s data ((p.mems.getD j aK).data)).1)].map ac).length ≤ 137438953472∧(tab (qY p s data) j).map ac ++ [(s.mems.getD j []).set ((Int.tmod ((a8 p s data ((p.mems.getD j aK).addr)).1) ((p.mems.getD j aK).words)).toNat) ((a8 p s data ((p.mems.getD j aK).data)).1)].map ac = (tab (qY p s data) (j + 1)).map ac)∧TT 3 (W6 ((j + 1 : Nat) : Int)∧TT 1 (AG (my p s data i) j (j + 1))))))))) (TT 3 (an [[(LI (s.mems.getD j []))]] ([s.mems.getD j []].map ac)∧((tab (qY p s data) j).length + ([s.mems.getD j []].map ac).length ≤ 137438953472∧(tab (qY p s data) j).map ac ++ [s.mems.getD j []].map ac = (tab (qY p s data) (j + 1)).map ac)∧TT 3 (W6 ((j + 1 : Nat) : Int)∧TT 1 (AG (my p s data i) j (j + 1))))))))))) (TT 3 ((tab (fun z => (a8 p s data (p.regs.getD z bJ).next).1) i).map (ae .i64) = ((co p s data).regs).map (ae .i64)∧(tab (qY p s data) j).map ac = ((co p s data).mems).map ac∧True)))))))))) (.g 2 2 0 3 1 (ae .i64) 0 <| .l (qJ p s data) 0 (fun i => .b 14 (.w 5 [(10,(mu p s data 2 ((p.regs.getD i bJ).next)).O),(12,.box 3 1 (ae .i64) 0 [(a8 p s data ((p.regs.getD i bJ).next)).1]),(13,.box 3 1 (ae .i64) 0 (tab (fun z => (a8 p s data (p.regs.getD z bJ).next).1) (i + 1)))] <| .w 4 [(1,.val (i6 ((i + 1 : Nat) : Int)))] <| .e) (.g 6 2 1 28 1 ac [] <| .l (my p s data i) 0 (fun j => .b 37 (.w 10 [(0,.box 3 1 (ae .i64) 0 ([] : List Int)),(7,.box 3 1 (ae .i64) 0 (s.mems.getD j []))] <| .w 11 [(3,(pp p s data ((p.mems.getD j aK).enable)).O)] <| .b 57 (.w 12 [(4,(mu p s data 2 ((p.mems.getD j aK).addr)).O),(12,(mu p s data 2 ((p.mems.getD j aK).data)).O),(15,.box 3 1 (ae .i64) 0 ((s.mems.getD j []).set ((Int.tmod ((a8 p s data ((p.mems.getD j aK).addr)).1) ((p.mems.getD j aK).words)).toNat) ((a8 p s data ((p.mems.getD j aK).data)).1)))] <| .f 13 6 <| .w 13 [(3,.box 28 1 ac [] [(s.mems.getD j []).set ((Int.tmod ((a8 p s data ((p.mems.getD j aK).addr)).1) ((p.mems.getD j aK).words)).toNat) ((a8 p s data ((p.mems.getD j aK).data)).1)]),(4,.box 28 1 ac [] (tab (qY p s data) (j + 1)))] <| .w 8 [(1,.val (i6 ((j + 1 : Nat) : Int)))] <| .e) (.f 13 6 <| .w 13 [(3,.box 28 1 ac [] [s.mems.getD j []]),(4,.box 28 1 ac [] (tab (qY p s data) (j + 1)))] <| .w 8 [(1,.val (i6 ((j + 1 : Nat) : Int)))] <| .e)) (.e))))) Tryz.func106 rfl rfl rfl (by kernel_rfl) ?_
 refine tt ⟨rfl,(by omega),?_⟩
 intro i hinv
 have hi := hinv
 refine tt (cd (fun hc14 => ?_) (fun hc14 => ?_))
 · have hrn := hp.rw i (by omega)
   refine tt ⟨ix,tt ⟨(kh ho hmw 2 ((p.regs.getD i bJ).next) _ hrn.2.2.1 hrn.2.2.2),tt ⟨⟨⟨rfl,oK⟩,oK⟩,⟨(f9 (f := fun z => (a8 p s data (p.regs.getD z bJ).next).1) (by omega)),tt ⟨w6,tt ⟨(i + 1),rfl,(?_ : (i + 1) ≤ p.regs.length),(?_ : p.regs.length - (i + 1) < p.regs.length - i)⟩⟩⟩⟩⟩⟩
   · omega
   · omega
 · refine tt ⟨rfl,(by omega),?_⟩
   intro j hinv
   have hj := hinv
   refine tt (cd (fun hc37 => ?_) (fun hc37 => ?_))
   · have hmz : 1 ≤ (p.mems.getD j aK).words∧(p.mems.getD j aK).words ≤ 4 := (hp.mw j (by omega)).2.1
     have hml : ((s.mems.getD j []).length : Int) = (p.mems.getD j aK).words := hso.mn j (by omega)
     have hme := (hp.mw j (by omega)).2.2.1
     have hmb := (hp.mw j (by omega)).2.2.2
     obtain ⟨va,hma⟩ := hmb.1.1
     have had : 0 ≤ Int.tmod (a8 p s data (p.mems.getD j aK).addr).1 (p.mems.getD j aK).words∧Int.tmod (a8 p s data (p.mems.getD j aK).addr).1 (p.mems.getD j aK).words < (s.mems.getD j []).length∧(p.mems.getD j aK).words ≠ 0 := C4 hp hso hda (show j < p.mems.length by omega)
     refine tt ⟨ix,tt ⟨oK,tt ⟨ix,tt ⟨⟨by simp only [List.length_map,List.length_nil]; omega,by simp⟩,tt ⟨(vG p s data ((p.mems.getD j aK).enable) ho hmw hme.1 hme.2),⟨fun hc57 => ?_,fun hc57 => ?_⟩⟩⟩⟩⟩⟩
     · refine tt ⟨(kh ho hmw 2 ((p.mems.getD j aK).addr) _ hma hmb.1.2),tt ⟨om,tt ⟨(kh ho hmw 2 ((p.mems.getD j aK).data) _ hmb.2.1 hmb.2.2),tt ⟨ix,⟨⟨om,by simp only [List.map_set]; rfl⟩,tt ⟨⟨⟨rfl,oK⟩,oK⟩,⟨(bt (by omega) (by first | exact yw hc57 | exact C3 (by rw [hc57]; simp))),tt ⟨w6,tt ⟨(j + 1),rfl,(?_ : (j + 1) ≤ p.mems.length),(?_ : p.mems.length - (j + 1) < p.mems.length - j)⟩⟩⟩⟩⟩⟩⟩⟩⟩
       · omega
       · omega
     · refine tt ⟨⟨⟨rfl,oK⟩,oK⟩,⟨(bt (by omega) (by first | exact yw hc57 | exact C3 (by rw [hc57]; simp))),tt ⟨w6,tt ⟨(j + 1),rfl,(?_ : (j + 1) ≤ p.mems.length),(?_ : p.mems.length - (j + 1) < p.mems.length - j)⟩⟩⟩⟩
       · omega
       · omega
   · refine tt ⟨(congrArg _ (?_ : (tab (fun z => (a8 p s data (p.regs.getD z bJ).next).1) i) = ((co p s data).regs))),(congrArg _ (?_ : (tab (qY p s data) j) = ((co p s data).mems))),oK⟩
     · rw [show i = p.regs.length by omega]; rfl
     · rw [show j = p.mems.length by omega]; rfl
abbrev Nr (p : Pr) (s : Ps) (hs : List Hd) (rs : List Bool) : Ct := ⟨95,[(DD p),(.agg (mt s)),(.agg [(dL 2 bR aW hs),(LB rs)])],true,(.agg [(dB ((aM p s hs rs).fires)),(LI (((aM p s hs rs).s).regs)),(dL 1 ac [] (((aM p s hs rs).s).mems)),(LB ((aM p s hs rs).pops)),(dL 2 bR aW ((aM p s hs rs).puts))])⟩
abbrev ip (p : Pr) (s : Ps) (hs : List Hd) (rs : List Bool) : Lp (Nat × Bool) := we [3,5,6,7,8,9] 16 (fun (i : Nat) (fir : Bool) => ⟨[(3,jr),(5,(.ptr 2 0 0 0)),(6,(.ptr 3 0 0 0)),(7,(.ptr 4 0 0 0)),(8,(.ptr 15 0 0 0)),(9,(i6 (i : Int)))],[(oB p),(.var 112 (mt s)),(.var 196 [(dL 2 bR aW hs),(LB rs)]),DE,(DC p s hs),.dead,.dead,.dead,.dead,(.arr 4 1 aL false (List.replicate p.takes.length false)),.dead,.dead,.dead,(.arr 182 2 bR aW (List.replicate p.puts.length aW)),.dead,(.var 179 [(dB fir),(LI s.regs),(dL 1 ac [] s.mems),(.own 9),(.own 13)])]⟩) (fun (i : Nat) (fir : Bool) => i ≤ p.takes.length∧fir = ct (hE p s hs) i) (fun (i : Nat) (fir : Bool) => p.takes.length - i)
abbrev iq (p : Pr) (s : Ps) (hs : List Hd) (rs : List Bool) (fir : Bool) : Lp (Nat × Bool) := we [3,5,6,7,8,10] 16 (fun (m : Nat) (fi2 : Bool) => ⟨[(3,jr),(5,(.ptr 2 0 0 0)),(6,(.ptr 3 0 0 0)),(7,(.ptr 4 0 0 0)),(8,(.ptr 15 0 0 0)),(10,(i6 (m : Int)))],[(oB p),(.var 112 (mt s)),(.var 196 [(dL 2 bR aW hs),(LB rs)]),DE,(DC p s hs),.dead,.dead,.dead,.dead,(.arr 4 1 aL false (List.replicate p.takes.length false)),.dead,.dead,.dead,(.arr 182 2 bR aW (List.replicate p.puts.length aW)),.dead,(.var 179 [(dB fi2),(LI s.regs),(dL 1 ac [] s.mems),(.own 9),(.own 13)])]⟩) (fun (m : Nat) (fi2 : Bool) => m ≤ p.puts.length∧fi2 = (fir && ct (jY p s hs rs) m)) (fun (m : Nat) (fi2 : Bool) => p.puts.length - m)
abbrev nr (p : Pr) (s : Ps) (hs : List Hd) (rs : List Bool) (fi2 : Bool) : Lp (Nat × List Bool) := we [3,6,7,8,11] 16 (fun (q : Nat) (pop : List Bool) => ⟨[(3,jr),(6,(.ptr 3 0 0 0)),(7,(.ptr 4 0 0 0)),(8,(.ptr 15 0 0 0)),(11,(i6 (q : Int)))],[(oB p),(.var 112 (mt s)),(.var 196 [(dL 2 bR aW hs),(LB rs)]),DE,(DC p s hs),.dead,.dead,.dead,.dead,(.arr 4 1 aL false pop),.dead,.dead,.dead,(.arr 182 2 bR aW (List.replicate p.puts.length aW)),.dead,(.var 179 [(dB fi2),(LI ((co p s (bO p s hs)).regs)),(dL 1 ac [] ((co p s (bO p s hs)).mems)),(.own 9),(.own 13)])]⟩) (fun (q : Nat) (pop : List Bool) => q ≤ p.takes.length∧pop = cJ (l6 p s hs) (List.replicate p.takes.length false) q) (fun (q : Nat) (pop : List Bool) => p.takes.length - q)
abbrev kk (p : Pr) (s : Ps) (hs : List Hd) (rs : List Bool) (fi2 : Bool) (pop : List Bool) : Lp (Nat × List Hd) := we [3,6,7,8,12] 16 (fun (t : Nat) (put : List Hd) => ⟨[(3,jr),(6,(.ptr 3 0 0 0)),(7,(.ptr 4 0 0 0)),(8,(.ptr 15 0 0 0)),(12,(i6 (t : Int)))],[(oB p),(.var 112 (mt s)),(.var 196 [(dL 2 bR aW hs),(LB rs)]),DE,(DC p s hs),.dead,.dead,.dead,.dead,(.arr 4 1 aL false pop),.dead,.dead,.dead,(.arr 182 2 bR aW put),.dead,(.var 179 [(dB fi2),(LI ((co p s (bO p s hs)).regs)),(dL 1 ac [] ((co p s (bO p s hs)).mems)),(.own 9),(.own 13)])]⟩) (fun (t : Nat) (put : List Hd) => t ≤ p.puts.length∧put = cJ (l7 p s hs) (List.replicate p.puts.length aW) t) (fun (t : Nat) (put : List Hd) => p.puts.length - t)
theorem Fa (p : Pr) (s : Ps) (hs : List Hd) (rs : List Bool) (hp : gm p) (hso : oZ p s) (hh : z6 p hs) (hrs : rs.length = p.puts.length) : CC (Nr p s hs rs) := by
 have ht1 := hp.tl
 have ht2 := hp.pl
 have hhl := hh.l
 have hmw := hso.mn
 have ho := gr hp hso (u4 (s := s) (hs := hs) hp hh)
 have hda := u4 (s := s) (hs := hs) hp hh
 refine af.vc (V := TT 7 (CC (KE p s hs rs)∧TT 6 ((((0 : Int) ≤ (p.takes.length : Int)∧(p.takes.length : Int) ≤ (p.takes.length : Int)∧(p.takes.length : Int) ≤ 137438953472)∧(List.replicate p.takes.length false).length = p.takes.length∧∀ x ∈ (List.replicate p.takes.length false),cP [(dB false)] (aL x))∧TT 3 ((((0 : Int) ≤ (p.puts.length : Int)∧(p.puts.length : Int) ≤ (p.puts.length : Int)∧(p.puts.length : Int) ≤ 137438953472)∧(List.replicate p.puts.length aW).length = p.puts.length∧∀ x ∈ (List.replicate p.puts.length aW),cP [(dB false),(i6 0)] (bR x))∧TT 4 (GO (ip p s hs rs) (0,true) (∀ i fir,(ip p s hs rs).inv (i,fir) → TT 5 (CD ((i : Int) < (p.takes.length : Int)) (CS (fir = true) (CS (((hs.getD i aW).has) = true) (TT 2 ((True∧fir = true)∧TT 3 (IX (i : Int) hs.length∧TT 2 ((True∧((hs.getD i aW).has) = true)∧TT 5 (W6 ((i + 1 : Nat) : Int)∧TT 1 (AG (ip p s hs rs) (i,fir) (i + 1,true))))))) (TT 2 ((True∧fir = true)∧TT 3 (IX (i : Int) hs.length∧TT 2 ((True∧((hs.getD i aW).has) = false)∧TT 4 (IX (i : Int) p.takes.length∧TT 2 (CC (pp p s (bO p s hs) ((p.takes.getD i bK).when))∧TT 6 (W6 ((i + 1 : Nat) : Int)∧TT 1 (AG (ip p s hs rs) (i,fir) (i + 1,!(dM p s (bO p s hs) ((p.takes.getD i bK).when)))))))))))) (TT 2 ((True∧fir = false)∧TT 4 (W6 ((i + 1 : Nat) : Int)∧TT 1 (AG (ip p s hs rs) (i,fir) (i + 1,false)))))) (TT 1 (GO (iq p s hs rs fir) (0,fir) (∀ m fi2,(iq p s hs rs fir).inv (m,fi2) → TT 5 (CD ((m : Int) < (p.puts.length : Int)) (CS (fi2 = true) (CS ((rs.getD m false) = true) (TT 2 ((True∧fi2 = true)∧TT 3 (IX (m : Int) rs.length∧TT 1 ((True∧(rs.getD m false) = true)∧TT 5 (W6 ((m + 1 : Nat) : Int)∧TT 1 (AG (iq p s hs rs fir) (m,fi2) (m + 1,true))))))) (TT 2 ((True∧fi2 = true)∧TT 3 (IX (m : Int) rs.length∧TT 1 ((True∧(rs.getD m false) = false)∧TT 4 (IX (m : Int) p.puts.length∧TT 2 (CC (pp p s (bO p s hs) ((p.puts.getD m bp).when))∧TT 6 (W6 ((m + 1 : Nat) : Int)∧TT 1 (AG (iq p s hs rs fir) (m,fi2) (m + 1,!(dM p s (bO p s hs) ((p.puts.getD m bp).when)))))))))))) (TT 2 ((True∧fi2 = false)∧TT 4 (W6 ((m + 1 : Nat) : Int)∧TT 1 (AG (iq p s hs rs fir) (m,fi2) (m + 1,false)))))) (TT 3 (CB (!fi2) (TT 3 (fi2 = ((aM p s hs rs).fires)∧s.regs.map (ae .i64) = (((aM p s hs rs).s).regs).map (ae .i64)∧s.mems.map ac = (((aM p s hs rs).s).mems).map ac∧(List.replicate p.takes.length false).map aL = ((aM p s hs rs).pops).map aL∧(List.replicate p.puts.length aW).map bR = ((aM p s hs rs).puts).map bR∧True)) (TT 1 (CC (KF p s (bO p s hs))∧TT 3 (GO (nr p s hs rs fi2) (0,List.replicate p.takes.length false) (∀ q pop,(nr p s hs rs fi2).inv (q,pop) → TT 5 (CD ((q : Int) < (p.takes.length : Int)) (TT 7 (IX (q : Int) p.takes.length∧TT 2 (CC (pp p s (bO p s hs) ((p.takes.getD q bK).when))∧IX (q : Int) pop.length∧(q < pop.length∧(pop.map aL).set q ((aL (pop.getD q false)).take 0 ++ [(.bool (dM p s (bO p s hs) ((p.takes.getD q bK).when)))] ++ (aL (pop.getD q false)).drop (0 + 1)) = (pop.set q (dM p s (bO p s hs) ((p.takes.getD q bK).when))).map aL)∧TT 1 (W6 ((q + 1 : Nat) : Int)∧TT 1 (AG (nr p s hs rs fi2) (q,pop) (q + 1,pop.set q (dM p s (bO p s hs) ((p.takes.getD q bK).when)))))))) (TT 1 (GO (kk p s hs rs fi2 pop) (0,List.replicate p.puts.length aW) (∀ t put,(kk p s hs rs fi2 pop).inv (t,put) → TT 5 (CD ((t : Int) < (p.puts.length : Int)) (TT 4 (IX (t : Int) p.puts.length∧TT 2 (CC (pp p s (bO p s hs) ((p.puts.getD t bp).when))∧CB (dM p s (bO p s hs) ((p.puts.getD t bp).when)) (TT 7 (IX (t : Int) p.puts.length∧TT 2 (CC (mu p s (bO p s hs) 2 ((p.puts.getD t bp).data))∧TT 2 (IX (t : Int) put.length∧(t < put.length∧(put.map bR).set t ((bR (put.getD t aW)).take 0 ++ [(.bool true),(.int .i64 ((a8 p s (bO p s hs) ((p.puts.getD t bp).data)).1))] ++ (bR (put.getD t aW)).drop (0 + 2)) = (put.set t (⟨true,(a8 p s (bO p s hs) ((p.puts.getD t bp).data)).1⟩ : Hd)).map bR)∧TT 1 (W6 ((t + 1 : Nat) : Int)∧TT 1 (AG (kk p s hs rs fi2 pop) (t,put) (t + 1,put.set t (⟨true,(a8 p s (bO p s hs) ((p.puts.getD t bp).data)).1⟩ : Hd)))))))) (TT 1 (W6 ((t + 1 : Nat) : Int)∧TT 1 (AG (kk p s hs rs fi2 pop) (t,put) (t + 1,put))))))) (TT 3 (fi2 = ((aM p s hs rs).fires)∧((co p s (bO p s hs)).regs).map (ae .i64) = (((aM p s hs rs).s).regs).map (ae .i64)∧((co p s (bO p s hs)).mems).map ac = (((aM p s hs rs).s).mems).map ac∧pop.map aL = ((aM p s hs rs).pops).map aL∧put.map bR = ((aM p s hs rs).puts).map bR∧True)))))))))))))))))))))))) (.w 1 [(3,(KE p s hs rs).O)] <| .w 2 [(4,.box 4 1 aL false (List.replicate p.takes.length false)),(8,.box 182 2 bR aW (List.replicate p.puts.length aW))] <| .l (ip p s hs rs) (0,true) (fun ⟨i,fir⟩ => .b 31 (.s 6 (fir = true) (.s 6 (((hs.getD i aW).has) = true) (.w 6 [(2,.val (dB true)),(9,.val (dB true))] <| .w 5 [(1,.val (i6 ((i + 1 : Nat) : Int)))] <| .e) (.w 6 [(2,.val (dB true)),(9,.val (dB false)),(17,(pp p s (bO p s hs) ((p.takes.getD i bK).when)).O)] <| .w 5 [(1,.val (i6 ((i + 1 : Nat) : Int)))] <| .e)) (.w 6 [(2,.val (dB false))] <| .w 5 [(1,.val (i6 ((i + 1 : Nat) : Int)))] <| .e)) (.l (iq p s hs rs fir) (0,fir) (fun ⟨m,fi2⟩ => .b 60 (.s 10 (fi2 = true) (.s 10 ((rs.getD m false) = true) (.w 10 [(2,.val (dB true)),(8,.val (dB true))] <| .w 9 [(1,.val (i6 ((m + 1 : Nat) : Int)))] <| .e) (.w 10 [(2,.val (dB true)),(8,.val (dB false)),(16,(pp p s (bO p s hs) ((p.puts.getD m bp).when)).O)] <| .w 9 [(1,.val (i6 ((m + 1 : Nat) : Int)))] <| .e)) (.w 10 [(2,.val (dB false))] <| .w 9 [(1,.val (i6 ((m + 1 : Nat) : Int)))] <| .e)) (.b 86 (.e) (.w 13 [(1,(KF p s (bO p s hs)).O)] <| .l (nr p s hs rs fi2) (0,List.replicate p.takes.length false) (fun ⟨q,pop⟩ => .b 95 (.w 17 [(10,(pp p s (bO p s hs) ((p.takes.getD q bK).when)).O),(12,.box 4 1 aL false (pop.set q (dM p s (bO p s hs) ((p.takes.getD q bK).when))))] <| .w 16 [(1,.val (i6 ((q + 1 : Nat) : Int)))] <| .e) (.l (kk p s hs rs fi2 pop) (0,List.replicate p.puts.length aW) (fun ⟨t,put⟩ => .b 114 (.w 21 [(7,(pp p s (bO p s hs) ((p.puts.getD t bp).when)).O)] <| .b 124 (.w 22 [(10,(mu p s (bO p s hs) 2 ((p.puts.getD t bp).data)).O),(14,.box 182 2 bR aW (put.set t (⟨true,(a8 p s (bO p s hs) ((p.puts.getD t bp).data)).1⟩ : Hd)))] <| .w 20 [(1,.val (i6 ((t + 1 : Nat) : Int)))] <| .e) (.w 20 [(1,.val (i6 ((t + 1 : Nat) : Int)))] <| .e)) (.e)))))))))) Tryz.func95 rfl rfl rfl (by kernel_rfl) ?_
 refine tt ⟨(B1 p s hs rs hp hso hh),tt ⟨⟨by omega,List.length_replicate,fun x hx => by rw [List.eq_of_mem_replicate hx]; exact ⟨rfl,oK⟩⟩,tt ⟨⟨by omega,List.length_replicate,fun x hx => by rw [List.eq_of_mem_replicate hx]; exact ⟨rfl,rfl,oK⟩⟩,tt ⟨rfl,⟨by omega,rfl⟩,?_⟩⟩⟩⟩
 intro i fir hinv
 obtain ⟨hi,hfir⟩ := hinv
 refine tt (cd (fun hc31 => ?_) (fun hc31 => ?_))
 · have hwh := tx hp (show i < p.takes.length by omega)
   refine ⟨fun hs0 => ?_,fun hs0 => ?_⟩
   · refine ⟨fun hs1 => ?_,fun hs1 => ?_⟩
     · refine tt ⟨(bT hs0),tt ⟨ix,tt ⟨(bT hs1),tt ⟨w6,tt ⟨(i + 1,true),rfl,?_,(?_ : p.takes.length - (i + 1) < p.takes.length - i)⟩⟩⟩⟩⟩
       · exact ⟨by omega,l9 hfir _ (by unfold hE; clear hfir; cases fir <;> simp_all)⟩
       · omega
     · refine tt ⟨(bT hs0),tt ⟨ix,tt ⟨(bF hs1),tt ⟨ix,tt ⟨(vG p s (bO p s hs) ((p.takes.getD i bK).when) ho hmw hwh.1 hwh.2),tt ⟨w6,tt ⟨(i + 1,!(dM p s (bO p s hs) ((p.takes.getD i bK).when))),rfl,?_,(?_ : p.takes.length - (i + 1) < p.takes.length - i)⟩⟩⟩⟩⟩⟩⟩
       · exact ⟨by omega,l9 hfir _ (by unfold hE; clear hfir; cases fir <;> simp_all)⟩
       · omega
   · refine tt ⟨(bF hs0),tt ⟨w6,tt ⟨(i + 1,false),rfl,?_,(?_ : p.takes.length - (i + 1) < p.takes.length - i)⟩⟩⟩
     · exact ⟨by omega,l9 hfir _ (by unfold hE; clear hfir; cases fir <;> simp_all)⟩
     · omega
 · refine tt ⟨rfl,⟨by omega,by simp [ct]⟩,?_⟩
   intro m fi2 hinv
   obtain ⟨hm,hfi2⟩ := hinv
   refine tt (cd (fun hc60 => ?_) (fun hc60 => ?_))
   · have hpw := hp.pw m (by omega)
     refine ⟨fun hs2 => ?_,fun hs2 => ?_⟩
     · refine ⟨fun hs3 => ?_,fun hs3 => ?_⟩
       · refine tt ⟨(bT hs2),tt ⟨ix,tt ⟨(bT hs3),tt ⟨w6,tt ⟨(m + 1,true),rfl,?_,(?_ : p.puts.length - (m + 1) < p.puts.length - m)⟩⟩⟩⟩⟩
         · exact ⟨by omega,rP hfi2 _ (by unfold jY; clear hfi2 hfir; cases fi2 <;> simp_all)⟩
         · omega
       · refine tt ⟨(bT hs2),tt ⟨ix,tt ⟨(bF hs3),tt ⟨ix,tt ⟨(vG p s (bO p s hs) ((p.puts.getD m bp).when) ho hmw hpw.2.1.1 hpw.2.1.2),tt ⟨w6,tt ⟨(m + 1,!(dM p s (bO p s hs) ((p.puts.getD m bp).when))),rfl,?_,(?_ : p.puts.length - (m + 1) < p.puts.length - m)⟩⟩⟩⟩⟩⟩⟩
         · exact ⟨by omega,rP hfi2 _ (by unfold jY; clear hfi2 hfir; cases fi2 <;> simp_all)⟩
         · omega
     · refine tt ⟨(bF hs2),tt ⟨w6,tt ⟨(m + 1,false),rfl,?_,(?_ : p.puts.length - (m + 1) < p.puts.length - m)⟩⟩⟩
       · exact ⟨by omega,rP hfi2 _ (by unfold jY; clear hfi2 hfir; cases fi2 <;> simp_all)⟩
       · omega
   · have hie : i = p.takes.length := by omega
     have hme : m = p.puts.length := by omega
     refine tt ⟨fun hc86 => ?_,fun hc86 => ?_⟩
     · refine tt ⟨?_,(congrArg _ (?_ : s.regs = (((aM p s hs rs).s).regs))),(congrArg _ (?_ : s.mems = (((aM p s hs rs).s).mems))),(congrArg _ (?_ : (List.replicate p.takes.length false) = ((aM p s hs rs).pops))),(congrArg _ (?_ : (List.replicate p.puts.length aW) = ((aM p s hs rs).puts))),oK⟩
       all_goals
         rw [CY (by rw [mU (rs := rs) (a := fir) (b := fi2) (by rw [hfir,hie]) (by rw [hfi2,hme])]; simpa using hc86)]
         first | done | rfl | simpa using hc86
     · refine tt ⟨(Hp p s (bO p s hs) hp hso hda),tt ⟨rfl,⟨by omega,rfl⟩,?_⟩⟩
       intro q pop hinv
       obtain ⟨hq,hpop⟩ := hinv
       have hpl : pop.length = p.takes.length := by rw [hpop,er (by rw [List.length_replicate]; exact hq),List.length_replicate]
       refine tt (cd (fun hc95 => ?_) (fun hc95 => ?_))
       · have hwh := tx hp (show q < p.takes.length by omega)
         refine tt ⟨ix,tt ⟨(vG p s (bO p s hs) ((p.takes.getD q bK).when) ho hmw hwh.1 hwh.2),⟨ix,⟨⟨om,by simp only [List.map_set]; rfl⟩,tt ⟨w6,tt ⟨(q + 1,pop.set q (dM p s (bO p s hs) ((p.takes.getD q bK).when))),rfl,?_,(?_ : p.takes.length - (q + 1) < p.takes.length - q)⟩⟩⟩⟩⟩⟩
         · exact ⟨by omega,by rw [hpop]; exact cb (by rw [List.length_replicate]; omega) rfl⟩
         · omega
       · refine tt ⟨rfl,⟨by omega,rfl⟩,?_⟩
         intro t put hinv
         obtain ⟨ht,hput⟩ := hinv
         have hql : put.length = p.puts.length := by rw [hput,er (by rw [List.length_replicate]; exact ht),List.length_replicate]
         refine tt (cd (fun hc114 => ?_) (fun hc114 => ?_))
         · have hpw := hp.pw t (by omega)
           refine tt ⟨ix,tt ⟨(vG p s (bO p s hs) ((p.puts.getD t bp).when) ho hmw hpw.2.1.1 hpw.2.1.2),⟨fun hc124 => ?_,fun hc124 => ?_⟩⟩⟩
           · refine tt ⟨ix,tt ⟨(kh ho hmw 2 ((p.puts.getD t bp).data) _ hpw.2.2.1 hpw.2.2.2),tt ⟨ix,⟨⟨om,by simp only [List.map_set]; rfl⟩,tt ⟨w6,tt ⟨(t + 1,put.set t (⟨true,(a8 p s (bO p s hs) ((p.puts.getD t bp).data)).1⟩ : Hd)),rfl,?_,(?_ : p.puts.length - (t + 1) < p.puts.length - t)⟩⟩⟩⟩⟩⟩
             · exact ⟨by omega,by rw [hput]; exact cb (by rw [List.length_replicate]; omega) (if_pos hc124)⟩
             · omega
           · refine tt ⟨w6,tt ⟨(t + 1,put),rfl,?_,(?_ : p.puts.length - (t + 1) < p.puts.length - t)⟩⟩
             · exact ⟨by omega,by rw [hput]; exact cf (d := aW) (by rw [List.length_replicate]; omega) ((if_neg (by rw [hc124]; simp)).trans cr.symm)⟩
             · omega
         · refine tt ⟨?_,(congrArg _ (?_ : ((co p s (bO p s hs)).regs) = (((aM p s hs rs).s).regs))),(congrArg _ (?_ : ((co p s (bO p s hs)).mems) = (((aM p s hs rs).s).mems))),(congrArg _ (?_ : pop = ((aM p s hs rs).pops))),(congrArg _ (?_ : put = ((aM p s hs rs).puts))),oK⟩
           all_goals
             rw [yv (by rw [mU (rs := rs) (a := fir) (b := fi2) (by rw [hfir,hie]) (by rw [hfi2,hme])]; simpa using hc86)]
             first | done | (simpa using hc86) | (rw [hpop,show q = p.takes.length by omega,dk (by rw [List.length_replicate]; exact Nat.le_refl _)]) | (rw [hput,show t = p.puts.length by omega,dk (by rw [List.length_replicate]; exact Nat.le_refl _)])
abbrev I4 (a b : List Int) : Ct := ⟨59,[(LI a),(LI b)],false,(dB (decide (a = b)))⟩
abbrev tM (a : List Int) (b : List Int) : Lp (Nat) := fG [0,1,5] 0 (fun (k : Nat) => ⟨[(0,(LI a)),(1,(LI b)),(5,(i6 (k : Int)))],[]⟩) (fun (k : Nat) => k ≤ a.length∧∀ z,z < k → a.getD z 0 = b.getD z 0) (fun (k : Nat) => a.length - k)
theorem tN (a b : List Int) (ha : a.length ≤ 9223372036854775807) : CC (I4 a b) := by
 refine af.vc (V := TT 6 (CN ((a.length : Int) = (b.length : Int)) (TT 2 (false = (decide (a = b))∧True)) (TT 1 (GO (tM a b) 0 (∀ k,(tM a b).inv k → TT 4 (CD ((k : Int) < (a.length : Int)) (TT 2 (IX (k : Int) a.length∧TT 3 (IX (k : Int) b.length∧TT 2 (CN ((a.getD k 0) = (b.getD k 0)) (TT 2 (false = (decide (a = b))∧True)) (TT 1 (W6 ((k + 1 : Nat) : Int)∧TT 1 (AG (tM a b) k (k + 1)))))))) (TT 2 (true = (decide (a = b))∧True)))))))) (.b 10 (.e) (.l (tM a b) 0 (fun k => .b 14 (.b 25 (.e) (.w 5 [(1,.val (i6 ((k + 1 : Nat) : Int)))] <| .e)) (.e)))) Tryz.func59 rfl rfl rfl (by kernel_rfl) ?_
 refine tt (cn (fun hc10 => ?_) (fun hc10 => ?_))
 · refine tt ⟨?_,oK⟩
   first | exact (decide_eq_false (fun e => by subst e; omega)).symm | exact (decide_eq_false (same_no (k := k) (by simpa using hc25))).symm | exact (decide_eq_true (dR (by omega) (by omega) hall)).symm
 · refine tt ⟨rfl,⟨by omega,fun z hz => by omega⟩,?_⟩
   intro k hinv
   obtain ⟨hk,hall⟩ := hinv
   refine tt (cd (fun hc14 => ?_) (fun hc14 => ?_))
   · refine tt ⟨ix,tt ⟨ix,tt (cn (fun hc25 => ?_) (fun hc25 => ?_))⟩⟩
     · refine tt ⟨?_,oK⟩
       first | exact (decide_eq_false (fun e => by subst e; omega)).symm | exact (decide_eq_false (same_no (k := k) (by simpa using hc25))).symm | exact (decide_eq_true (dR (by omega) (by omega) hall)).symm
     · refine tt ⟨w6,tt ⟨(k + 1),rfl,?_,(?_ : a.length - (k + 1) < a.length - k)⟩⟩
       · exact ⟨by omega,br hall (by simpa using hc25)⟩
       · omega
   · refine tt ⟨?_,oK⟩
     first | exact (decide_eq_false (fun e => by subst e; omega)).symm | exact (decide_eq_false (same_no (k := k) (by simpa using hc25))).symm | exact (decide_eq_true (dR (by omega) (by omega) hall)).symm
abbrev Nt (a b : Ps) : Ct := ⟨58,[(.agg [(LI a.regs),(dL 1 ac [] a.mems)]),(.agg [(LI b.regs),(dL 1 ac [] b.mems)])],false,(dB (dW a b))⟩
abbrev ns (a : Ps) (b : Ps) : Lp (Nat) := fG [2,3,5] 2 (fun (k : Nat) => ⟨[(2,jr),(3,(.ptr 1 0 0 0)),(5,(i6 (k : Int)))],[(.var 112 [(LI a.regs),(dL 1 ac [] a.mems)]),(.var 112 [(LI b.regs),(dL 1 ac [] b.mems)])]⟩) (fun (k : Nat) => k ≤ a.mems.length∧∀ z,z < k → a.mems.getD z [] = b.mems.getD z []) (fun (k : Nat) => a.mems.length - k)
theorem Fb (a b : Ps) (ha : a.regs.length ≤ 9223372036854775807) (hb : a.mems.length ≤ 9223372036854775807) (hc : ∀ i,(a.mems.getD i []).length ≤ 9223372036854775807) : CC (Nt a b) := by
 refine af.vc (V := TT 3 (CS (a.regs = b.regs) (TT 4 (CC (I4 a.regs b.regs)∧TT 1 ((True∧(!decide (a.regs = b.regs)) = false)∧TT 8 (CN ((a.mems.length : Int) = (b.mems.length : Int)) (TT 2 (false = (dW a b)∧True)) (TT 1 (GO (ns a b) 0 (∀ k,(ns a b).inv k → TT 5 (CD ((k : Int) < (a.mems.length : Int)) (TT 3 (IX (k : Int) a.mems.length∧TT 4 (IX (k : Int) b.mems.length∧TT 1 (CC (I4 (a.mems.getD k []) (b.mems.getD k []))∧TT 1 (CN ((a.mems.getD k []) = (b.mems.getD k [])) (TT 2 (false = (dW a b)∧True)) (TT 1 (W6 ((k + 1 : Nat) : Int)∧TT 1 (AG (ns a b) k (k + 1))))))))) (TT 2 (true = (dW a b)∧True)))))))))) (TT 4 (CC (I4 a.regs b.regs)∧TT 1 ((True∧(!decide (a.regs = b.regs)) = true)∧TT 10 (false = (dW a b)∧True)))))) (.s 1 (a.regs = b.regs) (.w 1 [(4,(I4 a.regs b.regs).O),(6,.val (dB false))] <| .b 20 (.e) (.l (ns a b) 0 (fun k => .b 25 (.w 6 [(10,(I4 (a.mems.getD k []) (b.mems.getD k [])).O)] <| .b 39 (.e) (.w 5 [(1,.val (i6 ((k + 1 : Nat) : Int)))] <| .e)) (.e)))) (.w 1 [(4,(I4 a.regs b.regs).O),(6,.val (dB true))] <| .e)) Tryz.func58 rfl rfl rfl (by kernel_rfl) ?_
 refine tt ⟨fun hs0 => ?_,fun hs0 => ?_⟩
 · refine tt ⟨(tN a.regs b.regs ha),tt ⟨(nF hs0),tt (cn (fun hc20 => ?_) (fun hc20 => ?_))⟩⟩
   · refine tt ⟨?_,oK⟩
     first | exact (kM (by simpa using hs0)).symm | exact (kN (by omega)).symm | exact (kO (i := k) (by simpa using hc39)).symm | exact (kP (by simpa using hs0) (dR (by omega) (by omega) hall)).symm
   · refine tt ⟨rfl,⟨by omega,fun z hz => by omega⟩,?_⟩
     intro k hinv
     obtain ⟨hk,hall⟩ := hinv
     refine tt (cd (fun hc25 => ?_) (fun hc25 => ?_))
     · refine tt ⟨ix,tt ⟨ix,tt ⟨(tN (a.mems.getD k []) (b.mems.getD k []) (hc k)),tt (cn (fun hc39 => ?_) (fun hc39 => ?_))⟩⟩⟩
       · refine tt ⟨?_,oK⟩
         first | exact (kM (by simpa using hs0)).symm | exact (kN (by omega)).symm | exact (kO (i := k) (by simpa using hc39)).symm | exact (kP (by simpa using hs0) (dR (by omega) (by omega) hall)).symm
       · refine tt ⟨w6,tt ⟨(k + 1),rfl,?_,(?_ : a.mems.length - (k + 1) < a.mems.length - k)⟩⟩
         · exact ⟨by omega,br hall (by simpa using hc39)⟩
         · omega
     · refine tt ⟨?_,oK⟩
       first | exact (kM (by simpa using hs0)).symm | exact (kN (by omega)).symm | exact (kO (i := k) (by simpa using hc39)).symm | exact (kP (by simpa using hs0) (dR (by omega) (by omega) hall)).symm
 · refine tt ⟨(tN a.regs b.regs ha),tt ⟨(nT hs0),tt ⟨?_,oK⟩⟩⟩
   first | exact (kM (by simpa using hs0)).symm | exact (kN (by omega)).symm | exact (kO (i := k) (by simpa using hc39)).symm | exact (kP (by simpa using hs0) (dR (by omega) (by omega) hall)).symm
end Go.Proofs.YtgmpoenfoacofaaGreat
