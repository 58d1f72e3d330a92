/-
  The reference of package process.
-/
import Derived.Test.YtgfbfajaaaegjaaQPrA
import Derived.Test.YtgfbfajaaaegjaaQPrT
import Derived.Test.YtgfbfajaaaegjaaQVrA
namespace Go.Proofs.Ytgfbfajaaaegjaa
open Go.RowKit
set_option linter.unusedVariables false
set_option linter.unusedSimpArgs false
abbrev l6 (p : Pr) : ay := (.var 37 [(dS p.name),(dS p.clock),(dL 13 bS aM p.regs),(dL 27 dW ax p.mems),(dL 9 bU aX p.takes),(dL 16 bL bg p.puts)])
abbrev x4 (p : Pr) (s : Ps) (hs : List Hd) : ay := (.var 65 [(dS p.name),(dS p.clock),(dL 13 bS aM p.regs),(dL 27 dW ax p.mems),(dL 9 bU aX p.takes),(dL 16 bL bg p.puts),(LI s.regs),(dL 1 ao [] s.mems),(LI (bI p s hs))])
abbrev x5 (p : Pr) : D := (.agg [(dS p.name),(dS p.clock),(dL 13 bS aM p.regs),(dL 27 dW ax p.mems),(dL 9 bU aX p.takes),(dL 16 bL bg p.puts)])
abbrev Ao (p : Pr) (s : Ps) (data : List Int) : ay := (.var 65 [(dS p.name),(dS p.clock),(dL 13 bS aM p.regs),(dL 27 dW ax p.mems),(dL 9 bU aX p.takes),(dL 16 bL bg p.puts),(LI s.regs),(dL 1 ao [] s.mems),(LI data)])
abbrev Ap (p : Pr) (s : Ps) (data : List Int) : D := (.agg [(dS p.name),(dS p.clock),(dL 13 bS aM p.regs),(dL 27 dW ax p.mems),(dL 9 bU aX p.takes),(dL 16 bL bg p.puts),(LI s.regs),(dL 1 ao [] s.mems),(LI data)])
abbrev kn (s : Ps) : List D := [(LI s.regs),(dL 1 ao [] s.mems)]
abbrev f9 : D := (.ptr 0 0 0 0)
abbrev x6 : ay := (.var 51 [(dB false),.nils,.nils,.nils,.nils])
set_option maxRecDepth 100000
abbrev D2 (v w : Int) : Ct := ⟨41,[(i6 v),(i6 w)],false,(dB (fh v w))⟩
theorem vI (v w : Int) (h1 : 0 ≤ w) (h2 : w ≤ 62) : CC (D2 v w) := by
 refine ah.vc (V := TT 1 (CS (v ≥ 0) (TT 2 ((True∧(decide (v ≥ 0)) = true)∧TT 2 ((True∧IntKind.u64.wrap w = w)∧(0 ≤ w∧(Int.fdiv v (2 ^ min w.toNat 64)) = (v / 2 ^ w.toNat))∧TT 4 (((v / 2 ^ w.toNat) == 0) = (fh v w)∧True)))) (TT 2 ((True∧(decide (v ≥ 0)) = false)∧TT 8 (false = (fh v w)∧True))))) (.s 1 (v ≥ 0) (.w 1 [(2,.val (dB true)),(5,.val (dI .u64 w)),(6,.val (i6 (v / 2 ^ w.toNat)))] <| .e) (.w 1 [(2,.val (dB false))] <| .e)) Try.func41 rfl rfl rfl (by kernel_rfl) ?_
 refine tt ⟨fun hs0 => ?_,fun hs0 => ?_⟩
 · refine tt ⟨(vT hs0),tt ⟨⟨oK,pY rfl om om⟩,⟨⟨(by omega),(tX h1 h2)⟩,tt ⟨?_,oK⟩⟩⟩⟩
   first | exact xS (by omega) h1 h2 | (unfold fh; rw [decide_eq_false (by omega)]; rfl)
 · refine tt ⟨(vF hs0),tt ⟨?_,oK⟩⟩
   first | exact xS (by omega) h1 h2 | (unfold fh; rw [decide_eq_false (by omega)]; rfl)
abbrev EH (p : Pr) (s : Ps) : Ct := ⟨16,[(x5 p),(.agg (kn s))],false,(dB (bi p s))⟩
abbrev k9 (p : Pr) (s : Ps) : Lp (Nat) := io [2,3,5] 2 (fun (i : Nat) => ⟨[(2,f9),(3,(.ptr 1 0 0 0)),(5,(i6 (i : Int)))],[(l6 p),(.var 29 (kn s))]⟩) (fun (i : Nat) => i ≤ s.regs.length∧∀ z,z < i → fh (s.regs.getD z 0) (p.regs.getD z aM).w = true) (fun (i : Nat) => s.regs.length - i)
abbrev lf (p : Pr) (s : Ps) : Lp (Nat) := io [2,3,6] 2 (fun (j : Nat) => ⟨[(2,f9),(3,(.ptr 1 0 0 0)),(6,(i6 (j : Int)))],[(l6 p),(.var 29 (kn s))]⟩) (fun (j : Nat) => j ≤ s.mems.length∧∀ z,z < j → fX p s z = true) (fun (j : Nat) => s.mems.length - j)
abbrev lg (p : Pr) (s : Ps) (j : Nat) : Lp (Nat) := io [2,3,6,7] 15 (fun (k : Nat) => ⟨[(2,f9),(3,(.ptr 1 0 0 0)),(6,(i6 (j : Int))),(7,(i6 (k : Int)))],[(l6 p),(.var 29 (kn s)),.dead,.dead,.dead,.dead,.dead,.dead,.dead,.dead,.dead,.dead,.dead,.dead,.dead]⟩) (fun (k : Nat) => k ≤ (s.mems.getD j []).length∧∀ z,z < k → fh ((s.mems.getD j []).getD z 0) (p.mems.getD j ax).w = true) (fun (k : Nat) => (s.mems.getD j []).length - k)
theorem yY (p : Pr) (s : Ps) (hp : cZ p) : CC (EH p s) := by
 have hl1 := hp.rl
 have hl2 := hp.ml
 refine ah.vc (V := TT 3 (CS ((s.regs.length : Int) = (p.regs.length : Int)) (TT 7 ((True∧(!decide ((s.regs.length : Int) = (p.regs.length : Int))) = false)∧TT 8 (CN ((s.mems.length : Int) = (p.mems.length : Int)) (TT 2 (false = (bi p s)∧True)) (TT 1 (GO (k9 p s) 0 (∀ i,(k9 p s).inv i → TT 5 (CD ((i : Int) < (s.regs.length : Int)) (TT 3 (IX (i : Int) s.regs.length∧TT 4 (IX (i : Int) p.regs.length∧TT 2 (CC (D2 (s.regs.getD i 0) ((p.regs.getD i aM).w))∧TT 1 (CB (!(fh (s.regs.getD i 0) ((p.regs.getD i aM).w))) (TT 2 (false = (bi p s)∧True)) (TT 1 (W6 ((i + 1 : Nat) : Int)∧TT 1 (AG (k9 p s) i (i + 1))))))))) (TT 1 (GO (lf p s) 0 (∀ j,(lf p s).inv j → TT 5 (CD ((j : Int) < (s.mems.length : Int)) (TT 3 (IX (j : Int) s.mems.length∧TT 5 (IX (j : Int) p.mems.length∧TT 3 (CN ((((s.mems.getD j []).length : Nat) : Int) = ((p.mems.getD j ax).words)) (TT 2 (false = (bi p s)∧True)) (TT 1 (GO (lg p s j) 0 (∀ k,(lg p s j).inv k → TT 4 (IX (j : Int) s.mems.length∧TT 3 (CD ((k : Int) < (((s.mems.getD j []).length : Nat) : Int)) (TT 3 (IX (j : Int) s.mems.length∧TT 2 (IX (k : Int) ((s.mems.getD j []).length)∧TT 4 (IX (j : Int) p.mems.length∧TT 2 (CC (D2 ((s.mems.getD j []).getD k 0) ((p.mems.getD j ax).w))∧TT 1 (CB (!(fh ((s.mems.getD j []).getD k 0) ((p.mems.getD j ax).w))) (TT 2 (false = (bi p s)∧True)) (TT 1 (W6 ((k + 1 : Nat) : Int)∧TT 1 (AG (lg p s j) k (k + 1)))))))))) (TT 1 (W6 ((j + 1 : Nat) : Int)∧TT 1 (AG (lf p s) j (j + 1))))))))))))) (TT 2 (true = (bi p s)∧True))))))))))))) (TT 7 ((True∧(!decide ((s.regs.length : Int) = (p.regs.length : Int))) = true)∧TT 10 (false = (bi p s)∧True))))) (.s 1 ((s.regs.length : Int) = (p.regs.length : Int)) (.w 1 [(7,.val (dB false))] <| .b 23 (.e) (.l (k9 p s) 0 (fun i => .b 28 (.w 6 [(11,(D2 (s.regs.getD i 0) ((p.regs.getD i aM).w)).O)] <| .b 43 (.e) (.w 5 [(1,.val (i6 ((i + 1 : Nat) : Int)))] <| .e)) (.l (lf p s) 0 (fun j => .b 48 (.b 63 (.e) (.l (lg p s j) 0 (fun k => .b 71 (.w 16 [(14,(D2 ((s.mems.getD j []).getD k 0) ((p.mems.getD j ax).w)).O)] <| .b 89 (.e) (.w 15 [(1,.val (i6 ((k + 1 : Nat) : Int)))] <| .e)) (.w 10 [(1,.val (i6 ((j + 1 : Nat) : Int)))] <| .e)))) (.e)))))) (.w 1 [(7,.val (dB true))] <| .e)) Try.func16 rfl rfl rfl (by kernel_rfl) ?_
 refine tt ⟨fun hs0 => ?_,fun hs0 => ?_⟩
 · refine tt ⟨(nF hs0),tt (cn (fun hc23 => ?_) (fun hc23 => ?_))⟩
   · refine tt ⟨?_,oK⟩
     first | exact (cA (by omega)).symm | exact (cB (by omega)).symm | exact (cC (i := i) (by omega) (by simpa using hc43)).symm | exact (be (i := j) (by omega) (ey (by omega))).symm | exact (be (i := j) (by omega) (ez (j := k) (by omega) (by simpa using hc89))).symm | exact (cD (by omega) (by omega) (fun z hz => h3 z (by omega)) (fun z hz => h4 z (by omega))).symm
   · refine tt ⟨rfl,⟨by omega,fun z hz => by omega⟩,?_⟩
     intro i hinv
     obtain ⟨hi,h3⟩ := hinv
     refine tt (cd (fun hc28 => ?_) (fun hc28 => ?_))
     · have hrw := aE.1 (show ai (p.regs.getD i aM).w = true from (hp.rw i (by omega)).1)
       refine tt ⟨ix,tt ⟨ix,tt ⟨(vI (s.regs.getD i 0) ((p.regs.getD i aM).w) om om),tt ⟨fun hc43 => ?_,fun hc43 => ?_⟩⟩⟩⟩
       · refine tt ⟨?_,oK⟩
         first | exact (cA (by omega)).symm | exact (cB (by omega)).symm | exact (cC (i := i) (by omega) (by simpa using hc43)).symm | exact (be (i := j) (by omega) (ey (by omega))).symm | exact (be (i := j) (by omega) (ez (j := k) (by omega) (by simpa using hc89))).symm | exact (cD (by omega) (by omega) (fun z hz => h3 z (by omega)) (fun z hz => h4 z (by omega))).symm
       · refine tt ⟨w6,tt ⟨(i + 1),rfl,?_,(?_ : s.regs.length - (i + 1) < s.regs.length - i)⟩⟩
         · exact ⟨by omega,ew h3 (by simpa using hc43)⟩
         · omega
     · refine tt ⟨rfl,⟨by omega,fun z hz => by omega⟩,?_⟩
       intro j hinv
       obtain ⟨hj,h4⟩ := hinv
       refine tt (cd (fun hc48 => ?_) (fun hc48 => ?_))
       · refine tt ⟨ix,tt ⟨ix,tt (cn (fun hc63 => ?_) (fun hc63 => ?_))⟩⟩
         · refine tt ⟨?_,oK⟩
           first | exact (cA (by omega)).symm | exact (cB (by omega)).symm | exact (cC (i := i) (by omega) (by simpa using hc43)).symm | exact (be (i := j) (by omega) (ey (by omega))).symm | exact (be (i := j) (by omega) (ez (j := k) (by omega) (by simpa using hc89))).symm | exact (cD (by omega) (by omega) (fun z hz => h3 z (by omega)) (fun z hz => h4 z (by omega))).symm
         · have hmw : 1 ≤ (p.mems.getD j ax).words∧(p.mems.getD j ax).words ≤ 4 := (hp.mw j (by omega)).2.1
           refine tt ⟨rfl,⟨by omega,fun z hz => by omega⟩,?_⟩
           intro k hinv
           obtain ⟨hk,h5⟩ := hinv
           refine tt ⟨ix,tt (cd (fun hc71 => ?_) (fun hc71 => ?_))⟩
           · have hmww := aE.1 (show ai (p.mems.getD j ax).w = true from (hp.mw j (by omega)).1)
             refine tt ⟨ix,tt ⟨ix,tt ⟨ix,tt ⟨(vI ((s.mems.getD j []).getD k 0) ((p.mems.getD j ax).w) om om),tt ⟨fun hc89 => ?_,fun hc89 => ?_⟩⟩⟩⟩⟩
             · refine tt ⟨?_,oK⟩
               first | exact (cA (by omega)).symm | exact (cB (by omega)).symm | exact (cC (i := i) (by omega) (by simpa using hc43)).symm | exact (be (i := j) (by omega) (ey (by omega))).symm | exact (be (i := j) (by omega) (ez (j := k) (by omega) (by simpa using hc89))).symm | exact (cD (by omega) (by omega) (fun z hz => h3 z (by omega)) (fun z hz => h4 z (by omega))).symm
             · refine tt ⟨w6,tt ⟨(k + 1),rfl,?_,(?_ : (s.mems.getD j []).length - (k + 1) < (s.mems.getD j []).length - k)⟩⟩
               · exact ⟨by omega,ew h5 (by simpa using hc89)⟩
               · omega
           · refine tt ⟨w6,tt ⟨(j + 1),rfl,?_,(?_ : s.mems.length - (j + 1) < s.mems.length - j)⟩⟩
             · exact ⟨by omega,ew h4 (xR (by omega) (fun z hz => h5 z (by omega)))⟩
             · omega
       · refine tt ⟨?_,oK⟩
         first | exact (cA (by omega)).symm | exact (cB (by omega)).symm | exact (cC (i := i) (by omega) (by simpa using hc43)).symm | exact (be (i := j) (by omega) (ey (by omega))).symm | exact (be (i := j) (by omega) (ez (j := k) (by omega) (by simpa using hc89))).symm | exact (cD (by omega) (by omega) (fun z hz => h3 z (by omega)) (fun z hz => h4 z (by omega))).symm
 · refine tt ⟨(nT hs0),tt ⟨?_,oK⟩⟩
   first | exact (cA (by omega)).symm | exact (cB (by omega)).symm | exact (cC (i := i) (by omega) (by simpa using hc43)).symm | exact (be (i := j) (by omega) (ey (by omega))).symm | exact (be (i := j) (by omega) (ez (j := k) (by omega) (by simpa using hc89))).symm | exact (cD (by omega) (by omega) (fun z hz => h3 z (by omega)) (fun z hz => h4 z (by omega))).symm
abbrev EI (p : Pr) : Ct := ⟨19,[(x5 p)],true,(.agg [(LI ((aZ p).regs)),(dL 1 ao [] ((aZ p).mems))])⟩
abbrev lh (p : Pr) : Lp (Nat) := io [1,2,3,4] 4 (fun (i : Nat) => ⟨[(1,f9),(2,(.ptr 1 0 0 0)),(3,(.ptr 2 0 0 0)),(4,(i6 (i : Int)))],[(l6 p),(.var 29 [.nils,.nils]),(.var 29 [(.own 3),.nils]),(.arr 3 1 (ac .i64) 0 (tab (fun z => (p.regs.getD z aM).init) i))]⟩) (fun (i : Nat) => i ≤ p.regs.length) (fun (i : Nat) => p.regs.length - i)
abbrev li (p : Pr) (i : Nat) : Lp (Nat) := io [1,2,3,5] 5 (fun (j : Nat) => ⟨[(1,f9),(2,(.ptr 1 0 0 0)),(3,(.ptr 2 0 0 0)),(5,(i6 (j : Int)))],[(l6 p),(.var 29 [.nils,.nils]),(.var 29 [(.own 3),(.own 4)]),(.arr 3 1 (ac .i64) 0 (tab (fun z => (p.regs.getD z aM).init) i)),(.arr 26 1 ao [] (tab (fun z => List.replicate (p.mems.getD z ax).words.toNat (0 : Int)) j))]⟩) (fun (j : Nat) => j ≤ p.mems.length) (fun (j : Nat) => p.mems.length - j)
theorem yZ (p : Pr) (hp : cZ p) : CC (EI p) := by
 have hl1 := hp.rl
 have hl2 := hp.ml
 refine ah.vc (V := TT 6 (GO (lh p) 0 (∀ i,(lh p).inv i → TT 5 (CD ((i : Int) < (p.regs.length : Int)) (TT 5 (IX (i : Int) p.regs.length∧TT 2 (au [[(i6 ((p.regs.getD i aM).init))]] ([(p.regs.getD i aM).init].map (ac .i64))∧((tab (fun z => (p.regs.getD z aM).init) i).length + ([(p.regs.getD i aM).init].map (ac .i64)).length ≤ 137438953472∧(tab (fun z => (p.regs.getD z aM).init) i).map (ac .i64) ++ [(p.regs.getD i aM).init].map (ac .i64) = (tab (fun z => (p.regs.getD z aM).init) (i + 1)).map (ac .i64))∧TT 3 (W6 ((i + 1 : Nat) : Int)∧TT 1 (AG (lh p) i (i + 1)))))) (TT 1 (GO (li p i) 0 (∀ j,(li p i).inv j → TT 5 (CD ((j : Int) < (p.mems.length : Int)) (TT 5 (IX (j : Int) p.mems.length∧TT 2 ((((0 : Int) ≤ (p.mems.getD j ax).words∧(p.mems.getD j ax).words ≤ (p.mems.getD j ax).words∧(p.mems.getD j ax).words ≤ 137438953472)∧(List.replicate (p.mems.getD j ax).words.toNat (0 : Int)).length = ((p.mems.getD j ax).words).toNat∧∀ x ∈ (List.replicate (p.mems.getD j ax).words.toNat (0 : Int)),ec [(i6 0)] ((ac .i64) x))∧au [[(LI (List.replicate (p.mems.getD j ax).words.toNat (0 : Int)))]] ([List.replicate (p.mems.getD j ax).words.toNat (0 : Int)].map ao)∧((tab (fun z => List.replicate (p.mems.getD z ax).words.toNat (0 : Int)) j).length + ([List.replicate (p.mems.getD j ax).words.toNat (0 : Int)].map ao).length ≤ 137438953472∧(tab (fun z => List.replicate (p.mems.getD z ax).words.toNat (0 : Int)) j).map ao ++ [List.replicate (p.mems.getD j ax).words.toNat (0 : Int)].map ao = (tab (fun z => List.replicate (p.mems.getD z ax).words.toNat (0 : Int)) (j + 1)).map ao)∧TT 3 (W6 ((j + 1 : Nat) : Int)∧TT 1 (AG (li p i) j (j + 1)))))) (TT 3 ((tab (fun z => (p.regs.getD z aM).init) i).map (ac .i64) = ((aZ p).regs).map (ac .i64)∧(tab (fun z => List.replicate (p.mems.getD z ax).words.toNat (0 : Int)) j).map ao = ((aZ p).mems).map ao∧True)))))))))) (.g 2 2 0 3 1 (ac .i64) 0 <| .l (lh p) 0 (fun i => .b 11 (.w 5 [(8,.box 3 1 (ac .i64) 0 [(p.regs.getD i aM).init]),(9,.box 3 1 (ac .i64) 0 (tab (fun z => (p.regs.getD z aM).init) (i + 1)))] <| .w 4 [(1,.val (i6 ((i + 1 : Nat) : Int)))] <| .e) (.g 6 2 1 26 1 ao [] <| .l (li p i) 0 (fun j => .b 29 (.w 9 [(8,.frz 3 1 (ac .i64) 0 (List.replicate (p.mems.getD j ax).words.toNat (0 : Int))),(9,.box 26 1 ao [] [List.replicate (p.mems.getD j ax).words.toNat (0 : Int)]),(10,.box 26 1 ao [] (tab (fun z => List.replicate (p.mems.getD z ax).words.toNat (0 : Int)) (j + 1)))] <| .w 8 [(1,.val (i6 ((j + 1 : Nat) : Int)))] <| .e) (.e))))) Try.func19 rfl rfl rfl (by kernel_rfl) ?_
 refine tt ⟨rfl,(by omega),?_⟩
 intro i hinv
 have hi := hinv
 refine tt (cd (fun hc11 => ?_) (fun hc11 => ?_))
 · refine tt ⟨ix,tt ⟨⟨⟨rfl,oK⟩,oK⟩,⟨(jp (f := fun z => (p.regs.getD z aM).init) (by omega)),tt ⟨w6,tt ⟨(i + 1),rfl,(?_ : (i + 1) ≤ p.regs.length),(?_ : p.regs.length - (i + 1) < p.regs.length - i)⟩⟩⟩⟩⟩
   · omega
   · omega
 · refine tt ⟨rfl,(by omega),?_⟩
   intro j hinv
   have hj := hinv
   refine tt (cd (fun hc29 => ?_) (fun hc29 => ?_))
   · have hmw : 1 ≤ (p.mems.getD j ax).words∧(p.mems.getD j ax).words ≤ 4 := (hp.mw j (by omega)).2.1
     refine tt ⟨ix,tt ⟨⟨by omega,List.length_replicate,fun x hx => by rw [List.eq_of_mem_replicate hx]; exact ⟨rfl,oK⟩⟩,⟨⟨⟨rfl,oK⟩,oK⟩,⟨(jp (f := fun z => List.replicate (p.mems.getD z ax).words.toNat (0 : Int)) (by omega)),tt ⟨w6,tt ⟨(j + 1),rfl,(?_ : (j + 1) ≤ p.mems.length),(?_ : p.mems.length - (j + 1) < p.mems.length - j)⟩⟩⟩⟩⟩⟩
     · omega
     · omega
   · refine tt ⟨(congrArg _ (?_ : (tab (fun z => (p.regs.getD z aM).init) i) = ((aZ p).regs))),(congrArg _ (?_ : (tab (fun z => List.replicate (p.mems.getD z ax).words.toNat (0 : Int)) j) = ((aZ p).mems))),oK⟩
     · rw [nw,show i = p.regs.length by omega]
     · rw [nw,show j = p.mems.length by omega]
abbrev uj (p : Pr) (s : Ps) (data : List Int) (n : Nat) (e : Ex) : Ct := ⟨26,[(Ap p s data),(.agg [(i6 e.op),(dS e.name),(i6 e.k.n),(dS e.k.p),(i6 e.w.n),(dS e.w.p),(dL 7 (eA n) dE e.args)])],false,(.agg [(i6 ((aL p s data e).1)),(i6 ((aL p s data e).2))])⟩
abbrev qo (p : Pr) (s : Ps) (data : List Int) (n : Nat) (e : Ex) : Lp (Nat) := io [2,3,4,7,8,9] 5 (fun (i : Nat) => ⟨[(2,f9),(3,(.ptr 1 0 0 0)),(4,(.ptr 2 0 0 0)),(7,(.own 3)),(8,(.own 4)),(9,(i6 (i : Int)))],[(Ao p s data),(.var 60 [(i6 e.op),(dS e.name),(i6 e.k.n),(dS e.k.p),(i6 e.w.n),(dS e.w.p),(dL 7 (eA (n + 1)) dE e.args)]),(.var 62 [(i6 0),(i6 0)]),(.arr 3 1 (ac .i64) 0 (cb p s data (e.args.take i))),(.arr 3 1 (ac .i64) 0 (b7 p s data (e.args.take i)))]⟩) (fun (i : Nat) => i ≤ e.args.length) (fun (i : Nat) => e.args.length - i)
theorem x7 (p : Pr) (s : Ps) (data : List Int) (n : Nat) (e : Ex) (c : Sc) (v : Int) (ho : mm c p s data) (ht : dc c e = some v) (hmw : ∀ i,i < p.mems.length → ((s.mems.getD i []).length : Int) = (p.mems.getD i ax).words) (ih : ∀ a ∈ e.args,CC (uj p s data n a)) : CC (uj p s data (n + 1) e) := by
 have hal := rt ht
 refine ah.vc (V := TT 7 (CD (e.op = 16) (TT 6 (IX e.k.n s.regs.length∧TT 7 (IX e.k.n p.regs.length∧TT 5 ((((s.regs.getD e.k.n.toNat 0) = ((aL p s data e).1)∧((p.regs.getD e.k.n.toNat aM).w) = ((aL p s data e).2)∧True))∧((True∧True∧True)))))) (TT 2 (CD (e.op = 17) (TT 6 (IX e.k.n p.mems.length∧TT 6 (IX 0 e.args.length∧TT 1 (CC (uj p s data n (e.args.getD 0 dE))∧TT 8 (IX e.k.n s.mems.length∧TT 5 ((((p.mems.getD e.k.n.toNat ax).words) ≠ 0∧(Int.tmod ((aL p s data (e.args.getD 0 dE)).1) ((p.mems.getD e.k.n.toNat ax).words)) = (Int.tmod (aL p s data (e.args.getD 0 dE)).1 ((s.mems.getD e.k.n.toNat []).length : Int)))∧IX (Int.tmod (aL p s data (e.args.getD 0 dE)).1 ((s.mems.getD e.k.n.toNat []).length : Int)) ((s.mems.getD e.k.n.toNat []).length)∧TT 6 (((((s.mems.getD e.k.n.toNat []).getD ((Int.tmod (aL p s data (e.args.getD 0 dE)).1 ((s.mems.getD e.k.n.toNat []).length : Int)).toNat) 0) = ((aL p s data e).1)∧((p.mems.getD e.k.n.toNat ax).w) = ((aL p s data e).2)∧True))∧((True∧True∧True))))))))) (TT 2 (CD (e.op = 18) (TT 5 (IX e.k.n data.length∧TT 7 (IX e.k.n p.takes.length∧TT 5 ((((data.getD e.k.n.toNat 0) = ((aL p s data e).1)∧((p.takes.getD e.k.n.toNat aX).w) = ((aL p s data e).2)∧True))∧((True∧True∧True)))))) (au [] ((cb p s data (e.args.take 0)).map (ac .i64))∧au [] ((b7 p s data (e.args.take 0)).map (ac .i64))∧TT 3 (GO (qo p s data n e) 0 (∀ i,(qo p s data n e).inv i → TT 5 (CD ((i : Int) < (e.args.length : Int)) (TT 4 (IX (i : Int) e.args.length∧TT 1 (CC (uj p s data n (e.args.getD i dE))∧TT 5 (au [[(i6 ((aL p s data (e.args.getD i dE)).1))]] ([(aL p s data (e.args.getD i dE)).1].map (ac .i64))∧((cb p s data (e.args.take i)).length + ([(aL p s data (e.args.getD i dE)).1].map (ac .i64)).length ≤ 137438953472∧(cb p s data (e.args.take i)).map (ac .i64) ++ [(aL p s data (e.args.getD i dE)).1].map (ac .i64) = (cb p s data (e.args.take (i + 1))).map (ac .i64))∧TT 4 (au [[(i6 ((aL p s data (e.args.getD i dE)).2))]] ([(aL p s data (e.args.getD i dE)).2].map (ac .i64))∧((b7 p s data (e.args.take i)).length + ([(aL p s data (e.args.getD i dE)).2].map (ac .i64)).length ≤ 137438953472∧(b7 p s data (e.args.take i)).map (ac .i64) ++ [(aL p s data (e.args.getD i dE)).2].map (ac .i64) = (b7 p s data (e.args.take (i + 1))).map (ac .i64))∧TT 2 (W6 ((i + 1 : Nat) : Int)∧TT 1 (AG (qo p s data n e) i (i + 1)))))))) (TT 10 (CK (D0 e.op (b7 p s data (e.args.take i)) e.k.n e.w.n)∧TT 12 (au [[(i6 e.k.n)],[(i6 e.w.n)]] ([e.k.n,e.w.n].map (ac .i64))∧TT 1 (CK (EG e.op (b7 p s data (e.args.take i)) (cb p s data (e.args.take i)) [e.k.n,e.w.n])∧TT 9 ((((ca e.op (b7 p s data (e.args.take i)) (cb p s data (e.args.take i)) [e.k.n,e.w.n]) = ((aL p s data e).1)∧(bl e.op (b7 p s data (e.args.take i)) e.k.n e.w.n) = ((aL p s data e).2)∧True))∧((True∧True∧True))))))))))))))))) (.b 15 (.e) (.b 35 (.w 6 [(5,(uj p s data n (e.args.getD 0 dE)).O)] <| .w 7 [(12,.val (i6 (Int.tmod (aL p s data (e.args.getD 0 dE)).1 ((s.mems.getD e.k.n.toNat []).length : Int))))] <| .e) (.b 69 (.e) (.w 10 [(0,.box 3 1 (ac .i64) 0 (cb p s data (e.args.take 0))),(1,.box 3 1 (ac .i64) 0 (b7 p s data (e.args.take 0)))] <| .l (qo p s data n e) 0 (fun i => .b 94 (.w 14 [(6,(uj p s data n (e.args.getD i dE)).O)] <| .w 15 [(3,.box 3 1 (ac .i64) 0 [(aL p s data (e.args.getD i dE)).1]),(4,.box 3 1 (ac .i64) 0 (cb p s data (e.args.take (i + 1))))] <| .w 16 [(3,.box 3 1 (ac .i64) 0 [(aL p s data (e.args.getD i dE)).2]),(4,.box 3 1 (ac .i64) 0 (b7 p s data (e.args.take (i + 1))))] <| .w 13 [(1,.val (i6 ((i + 1 : Nat) : Int)))] <| .e) (.w 17 [(10,(D0 e.op (b7 p s data (e.args.take i)) e.k.n e.w.n).O')] <| .w 18 [(10,.box 3 1 (ac .i64) 0 [e.k.n,e.w.n]),(12,(EG e.op (b7 p s data (e.args.take i)) (cb p s data (e.args.take i)) [e.k.n,e.w.n]).O')] <| .e)))))) Try.func26 rfl rfl rfl (by kernel_rfl) ?_
 refine tt (cd (fun hc15 => ?_) (fun hc15 => ?_))
 · obtain ⟨h1,h2,h3⟩ := wF ho ht hc15
   refine tt ⟨ix,tt ⟨ix,tt ⟨⟨?_,?_,oK⟩,⟨oK,oK,oK⟩⟩⟩⟩
   all_goals (first | exact (dY hc15).1.symm | exact (dY hc15).2.symm | exact (cH hc69).1.symm | exact (cH hc69).2.symm | exact (cI hc35 hlen).1.symm | exact (cI hc35 hlen).2.symm | (rw [hie,List.take_length]; exact (fN hc15 hc69 hc35).1.symm) | (rw [hie,List.take_length]; exact (fN hc15 hc69 hc35).2.symm))
 · refine tt (cd (fun hc35 => ?_) (fun hc35 => ?_))
   · obtain ⟨h1,h2,h3,hlen,h4,h5,h6⟩ := t4 ho ht hc35
     have hpw : (p.mems.getD e.k.n.toNat ax).words = ((s.mems.getD e.k.n.toNat []).length : Int) := (hmw _ (by omega)).symm
     have hz : (s.mems.getD e.k.n.toNat []).length ≠ 0 := by omega
     refine tt ⟨ix,tt ⟨ix,tt ⟨(ih _ (co (by omega))),tt ⟨ix,tt ⟨⟨(by omega),(by rw [hpw])⟩,⟨ix,tt ⟨⟨?_,?_,oK⟩,⟨oK,oK,oK⟩⟩⟩⟩⟩⟩⟩⟩
     all_goals (first | exact (dY hc15).1.symm | exact (dY hc15).2.symm | exact (cH hc69).1.symm | exact (cH hc69).2.symm | exact (cI hc35 hlen).1.symm | exact (cI hc35 hlen).2.symm | (rw [hie,List.take_length]; exact (fN hc15 hc69 hc35).1.symm) | (rw [hie,List.take_length]; exact (fN hc15 hc69 hc35).2.symm))
   · refine tt (cd (fun hc69 => ?_) (fun hc69 => ?_))
     · obtain ⟨h1,h2,h3⟩ := t3 ho ht hc69
       refine tt ⟨ix,tt ⟨ix,tt ⟨⟨?_,?_,oK⟩,⟨oK,oK,oK⟩⟩⟩⟩
       all_goals (first | exact (dY hc15).1.symm | exact (dY hc15).2.symm | exact (cH hc69).1.symm | exact (cH hc69).2.symm | exact (cI hc35 hlen).1.symm | exact (cI hc35 hlen).2.symm | (rw [hie,List.take_length]; exact (fN hc15 hc69 hc35).1.symm) | (rw [hie,List.take_length]; exact (fN hc15 hc69 hc35).2.symm))
     · refine ⟨oK,⟨oK,tt ⟨rfl,(by omega),?_⟩⟩⟩
       intro i hinv
       have hi := hinv
       refine tt (cd (fun hc94 => ?_) (fun hc94 => ?_))
       · refine tt ⟨ix,tt ⟨(ih _ (co (by omega))),tt ⟨⟨⟨rfl,oK⟩,oK⟩,⟨⟨by simp only [List.length_map,List.length_cons,List.length_nil]; rw [gI,List.length_take]; omega,by rw [oY (by omega),List.map_append]⟩,tt ⟨⟨⟨rfl,oK⟩,oK⟩,⟨⟨by simp only [List.length_map,List.length_cons,List.length_nil]; rw [gJ,List.length_take]; omega,by rw [oZ (by omega),List.map_append]⟩,tt ⟨w6,tt ⟨(i + 1),rfl,(?_ : (i + 1) ≤ e.args.length),(?_ : e.args.length - (i + 1) < e.args.length - i)⟩⟩⟩⟩⟩⟩⟩⟩
         · omega
         · omega
       · have hie : i = e.args.length := by omega
         have hev := vA ho ht hc15 hc35 hc69
         have hev1 : fL e.op (b7 p s data (e.args.take i)) e.k.n e.w.n = true := by rw [hie,List.take_length]; exact hev.1
         have hev2 : vn (b7 p s data (e.args.take i)) (cb p s data (e.args.take i)) = true := by rw [hie,List.take_length]; exact hev.2
         refine tt ⟨⟨cG _ rfl,(rJ e.op (b7 p s data (e.args.take i)) e.k.n e.w.n hev1)⟩,tt ⟨⟨⟨rfl,oK⟩,⟨rfl,oK⟩,oK⟩,tt ⟨⟨cG _ rfl,(wK e.op (b7 p s data (e.args.take i)) (cb p s data (e.args.take i)) [e.k.n,e.w.n] hev1 (by rw [gI,gJ]) hev2 rfl)⟩,tt ⟨⟨?_,?_,oK⟩,⟨oK,oK,oK⟩⟩⟩⟩⟩
         all_goals (first | exact (dY hc15).1.symm | exact (dY hc15).2.symm | exact (cH hc69).1.symm | exact (cH hc69).2.symm | exact (cI hc35 hlen).1.symm | exact (cI hc35 hlen).2.symm | (rw [hie,List.take_length]; exact (fN hc15 hc69 hc35).1.symm) | (rw [hie,List.take_length]; exact (fN hc15 hc69 hc35).2.symm))
theorem gL {c : Sc} {p : Pr} {s : Ps} {data : List Int} (ho : mm c p s data) (hmw : ∀ i,i < p.mems.length → ((s.mems.getD i []).length : Int) = (p.mems.getD i ax).words) : ∀ (n : Nat) (e : Ex) (v : Int),dc c e = some v → cR e ≤ n + 1 → CC (uj p s data n e)
  | 0,e,v,ht,hd => by
    have ha : e.args = [] := by
      cases hl : e.args with
      | nil => rfl
      | cons a r =>
        have := d9 (e := e) (a := a) (by rw [hl]; simp)
        cases a with | mk op name k w args => rw [cR] at this; omega
    have h := x7 p s data 0 e c v ho ht hmw (fun a h => by rw [ha] at h; cases h)
    refine ah.recast ?_ h
    refine ⟨m4 _ rfl,⟨rfl,rfl,rfl,rfl,rfl,rfl,?_,oK⟩,oK⟩
    show e.args.map (eA 0) = e.args.map (eA 1)
    rw [ha]; rfl
  | n + 1,e,v,ht,hd => x7 p s data n e c v ho ht hmw (fun a h => by
    obtain ⟨w,hw⟩ := mo ht h
    exact gL ho hmw n a w hw (by have := d9 h; omega))
abbrev wL (p : Pr) (s : Ps) (data : List Int) (e : Ex) : Ct := ⟨44,[(Ap p s data),(.agg [(i6 e.op),(dS e.name),(i6 e.k.n),(dS e.k.p),(i6 e.w.n),(dS e.w.p),(dL 7 (eA 2) dE e.args)])],false,(dB (dK p s data e))⟩
theorem rK (p : Pr) (s : Ps) (data : List Int) (e : Ex) {c : Sc} {v : Int} (ho : mm c p s data) (hmw : ∀ i,i < p.mems.length → ((s.mems.getD i []).length : Int) = (p.mems.getD i ax).words) (ht : dc c e = some v) (hd : cR e ≤ 3) : CC (wL p s data e) := by
 refine ah.vc (V := TT 5 (CC (uj p s data 2 e)∧TT 4 ((((aL p s data e).1) == 1) = (dK p s data e)∧True))) (.w 1 [(2,(uj p s data 2 e).O)] <| .e) Try.func44 rfl rfl rfl (by kernel_rfl) ?_
 refine tt ⟨(gL ho hmw 2 e _ ht hd),tt ⟨?_,oK⟩⟩
 rfl
abbrev EJ (p : Pr) (s : Ps) (hs : List Hd) (rs : List Bool) : Ct := ⟨43,[(x5 p),(.agg (kn s)),(.agg [(dL 2 cK bp hs),(LB rs)])],true,(.agg [(dS p.name),(dS p.clock),(dL 13 bS aM p.regs),(dL 27 dW ax p.mems),(dL 9 bU aX p.takes),(dL 16 bL bg p.puts),(LI s.regs),(dL 1 ao [] s.mems),(LI (bI p s hs))])⟩
abbrev fA (p : Pr) (s : Ps) (hs : List Hd) (rs : List Bool) : Lp (Nat × List Int) := xu [3,5,6,7,8,9] 20 (fun (i : Nat) (dat : List Int) => ⟨[(3,f9),(5,(.ptr 2 0 0 0)),(6,(.ptr 3 0 0 0)),(7,(.ptr 11 0 0 0)),(8,(.ptr 19 0 0 0)),(9,(i6 (i : Int)))],[(l6 p),(.var 29 (kn s)),(.var 43 [(dL 2 cK bp hs),(LB rs)]),(.var 65 [(dS e0),(dS e0),.nils,.nils,.nils,.nils,.nils,.nils,.nils]),.dead,.dead,.dead,.dead,.dead,.dead,.dead,(.var 65 [(dS p.name),(dS p.clock),(dL 13 bS aM p.regs),(dL 27 dW ax p.mems),(dL 9 bU aX p.takes),(dL 16 bL bg p.puts),(LI s.regs),(dL 1 ao [] s.mems),(LI (gO p))]),.dead,.dead,.dead,.dead,.dead,(.arr 3 1 (ac .i64) 0 dat),.dead,(.var 65 [(dS p.name),(dS p.clock),(dL 13 bS aM p.regs),(dL 27 dW ax p.mems),(dL 9 bU aX p.takes),(dL 16 bL bg p.puts),(LI s.regs),(dL 1 ao [] s.mems),(.own 17)])]⟩) (fun (i : Nat) (dat : List Int) => i ≤ p.takes.length∧dat = da (kd p s hs) (gO p) i) (fun (i : Nat) (dat : List Int) => p.takes.length - i)
theorem wM (p : Pr) (s : Ps) (hs : List Hd) (rs : List Bool) (hp : cZ p) (hso : kf p s) (hh : sn p hs) : CC (EJ p s hs rs) := by
 have ht1 := hp.tl
 have ht2 := hp.pl
 have hhl := hh.l
 have hmw := hso.mn
 have ho := dr hp hso (Ai hp)
 refine ah.vc (V := TT 9 ((((0 : Int) ≤ (p.takes.length : Int)∧(p.takes.length : Int) ≤ (p.takes.length : Int)∧(p.takes.length : Int) ≤ 137438953472)∧(gO p).length = p.takes.length∧∀ x ∈ (gO p),ec [(i6 0)] ((ac .i64) x))∧TT 8 ((((0 : Int) ≤ (p.takes.length : Int)∧(p.takes.length : Int) ≤ (p.takes.length : Int)∧(p.takes.length : Int) ≤ 137438953472)∧(gO p).length = p.takes.length∧∀ x ∈ (gO p),ec [(i6 0)] ((ac .i64) x))∧TT 4 (GO (fA p s hs rs) (0,gO p) (∀ i dat,(fA p s hs rs).inv (i,dat) → TT 5 (CD ((i : Int) < (p.takes.length : Int)) (CS ((dK p s (gO p) ((p.takes.getD i aX).when)) = true) (TT 4 (IX (i : Int) p.takes.length∧TT 2 (CC (wL p s (gO p) ((p.takes.getD i aX).when))∧(True∧(dK p s (gO p) ((p.takes.getD i aX).when)) = true)∧TT 3 (IX (i : Int) hs.length∧TT 3 (CB ((hs.getD i bp).has) (TT 6 (IX (i : Int) hs.length∧TT 2 (IX (i : Int) dat.length∧(i < dat.length∧(dat.map (ac .i64)).set i (((ac .i64) (dat.getD i 0)).take 0 ++ [(.int .i64 ((hs.getD i bp).v))] ++ ((ac .i64) (dat.getD i 0)).drop (0 + 1)) = (dat.set i ((hs.getD i bp).v)).map (ac .i64))∧TT 1 (W6 ((i + 1 : Nat) : Int)∧TT 1 (AG (fA p s hs rs) (i,dat) (i + 1,dat.set i ((hs.getD i bp).v))))))) (TT 1 (W6 ((i + 1 : Nat) : Int)∧TT 1 (AG (fA p s hs rs) (i,dat) (i + 1,dat))))))))) (TT 4 (IX (i : Int) p.takes.length∧TT 2 (CC (wL p s (gO p) ((p.takes.getD i aX).when))∧(True∧(dK p s (gO p) ((p.takes.getD i aX).when)) = false)∧TT 2 (W6 ((i + 1 : Nat) : Int)∧TT 1 (AG (fA p s hs rs) (i,dat) (i + 1,dat))))))) (TT 3 (p.name = p.name∧p.clock = p.clock∧p.regs.map bS = p.regs.map bS∧p.mems.map dW = p.mems.map dW∧p.takes.map bU = p.takes.map bU∧p.puts.map bL = p.puts.map bL∧s.regs.map (ac .i64) = s.regs.map (ac .i64)∧s.mems.map ao = s.mems.map ao∧dat.map (ac .i64) = (bI p s hs).map (ac .i64)∧True)))))))) (.w 1 [(5,.frz 3 1 (ac .i64) 0 (gO p))] <| .w 2 [(5,.box 3 1 (ac .i64) 0 (gO p))] <| .l (fA p s hs rs) (0,gO p) (fun ⟨i,dat⟩ => .b 28 (.s 6 ((dK p s (gO p) ((p.takes.getD i aX).when)) = true) (.w 6 [(7,(wL p s (gO p) ((p.takes.getD i aX).when)).O),(8,.val (dB true))] <| .b 46 (.w 7 [(10,.box 3 1 (ac .i64) 0 (dat.set i ((hs.getD i bp).v)))] <| .w 5 [(1,.val (i6 ((i + 1 : Nat) : Int)))] <| .e) (.w 5 [(1,.val (i6 ((i + 1 : Nat) : Int)))] <| .e)) (.w 6 [(7,(wL p s (gO p) ((p.takes.getD i aX).when)).O),(8,.val (dB false))] <| .w 5 [(1,.val (i6 ((i + 1 : Nat) : Int)))] <| .e)) (.e))) Try.func43 rfl rfl rfl (by kernel_rfl) ?_
 refine tt ⟨⟨by omega,d4,fun x hx => by rw [List.eq_of_mem_replicate hx]; exact ⟨rfl,oK⟩⟩,tt ⟨⟨by omega,d4,fun x hx => by rw [List.eq_of_mem_replicate hx]; exact ⟨rfl,oK⟩⟩,tt ⟨rfl,⟨by omega,rfl⟩,?_⟩⟩⟩
 intro i dat hinv
 obtain ⟨hi,hdat⟩ := hinv
 have hdl : dat.length = p.takes.length := by rw [hdat,cv (by rw [d4]; exact hi),d4]
 refine tt (cd (fun hc28 => ?_) (fun hc28 => ?_))
 · have hwh := nu hp (show i < p.takes.length by omega)
   refine ⟨fun hs0 => ?_,fun hs0 => ?_⟩
   · refine tt ⟨ix,tt ⟨(rK p s (gO p) ((p.takes.getD i aX).when) ho hmw hwh.1 hwh.2),⟨(bT hs0),tt ⟨ix,tt ⟨fun hc46 => ?_,fun hc46 => ?_⟩⟩⟩⟩⟩
     · refine tt ⟨ix,tt ⟨ix,⟨⟨om,by simp only [List.map_set]; rfl⟩,tt ⟨w6,tt ⟨(i + 1,dat.set i ((hs.getD i bp).v)),rfl,?_,(?_ : p.takes.length - (i + 1) < p.takes.length - i)⟩⟩⟩⟩⟩
       · exact ⟨by omega,by rw [hdat]; exact bN (by rw [d4]; omega) (Bn hs0 hc46)⟩
       · omega
     · refine tt ⟨w6,tt ⟨(i + 1,dat),rfl,?_,(?_ : p.takes.length - (i + 1) < p.takes.length - i)⟩⟩
       · exact ⟨by omega,by rw [hdat]; exact eW (by rw [d4]; omega) (by first | exact xT (by assumption) | exact xU (by rw [hc46]; simp))⟩
       · omega
   · refine tt ⟨ix,tt ⟨(rK p s (gO p) ((p.takes.getD i aX).when) ho hmw hwh.1 hwh.2),⟨(bF hs0),tt ⟨w6,tt ⟨(i + 1,dat),rfl,?_,(?_ : p.takes.length - (i + 1) < p.takes.length - i)⟩⟩⟩⟩⟩
     · exact ⟨by omega,by rw [hdat]; exact eW (by rw [d4]; omega) (by first | exact xT (by assumption) | exact xU (by rw [hc46]; simp))⟩
     · omega
 · refine tt ⟨rfl,rfl,rfl,rfl,rfl,rfl,rfl,rfl,(congrArg _ (?_ : dat = (bI p s hs))),oK⟩
   rw [hdat,show i = p.takes.length by omega,cr (by rw [d4]; exact Nat.le_refl _)]; rfl
abbrev EK (p : Pr) (s : Ps) (data : List Int) : Ct := ⟨45,[(Ap p s data)],true,(.agg [(LI ((cf p s data).regs)),(dL 1 ao [] ((cf p s data).mems))])⟩
abbrev nJ (p : Pr) (s : Ps) (data : List Int) : Lp (Nat) := io [1,2,3,4] 4 (fun (i : Nat) => ⟨[(1,f9),(2,(.ptr 1 0 0 0)),(3,(.ptr 2 0 0 0)),(4,(i6 (i : Int)))],[(Ao p s data),(.var 29 [.nils,.nils]),(.var 29 [(.own 3),.nils]),(.arr 3 1 (ac .i64) 0 (tab (fun z => (aL p s data (p.regs.getD z aM).next).1) i))]⟩) (fun (i : Nat) => i ≤ p.regs.length) (fun (i : Nat) => p.regs.length - i)
abbrev ko (p : Pr) (s : Ps) (data : List Int) (i : Nat) : Lp (Nat) := io [1,2,3,5] 5 (fun (j : Nat) => ⟨[(1,f9),(2,(.ptr 1 0 0 0)),(3,(.ptr 2 0 0 0)),(5,(i6 (j : Int)))],[(Ao p s data),(.var 29 [.nils,.nils]),(.var 29 [(.own 3),(.own 4)]),(.arr 3 1 (ac .i64) 0 (tab (fun z => (aL p s data (p.regs.getD z aM).next).1) i)),(.arr 26 1 ao [] (tab (od p s data) j))]⟩) (fun (j : Nat) => j ≤ p.mems.length) (fun (j : Nat) => p.mems.length - j)
theorem Aq (p : Pr) (s : Ps) (data : List Int) (hp : cZ p) (hso : kf p s) (hda : sm p data) : CC (EK p s data) := by
 have hl1 := hp.rl
 have hl2 := hp.ml
 have hmw := hso.mn
 have ho := dr hp hso hda
 have hsl := hso.ml
 refine ah.vc (V := TT 6 (GO (nJ p s data) 0 (∀ i,(nJ p s data).inv i → TT 6 (CD ((i : Int) < (p.regs.length : Int)) (TT 7 (IX (i : Int) p.regs.length∧TT 2 (CC (uj p s data 2 ((p.regs.getD i aM).next))∧TT 1 (au [[(i6 ((aL p s data ((p.regs.getD i aM).next)).1))]] ([(aL p s data ((p.regs.getD i aM).next)).1].map (ac .i64))∧((tab (fun z => (aL p s data (p.regs.getD z aM).next).1) i).length + ([(aL p s data ((p.regs.getD i aM).next)).1].map (ac .i64)).length ≤ 137438953472∧(tab (fun z => (aL p s data (p.regs.getD z aM).next).1) i).map (ac .i64) ++ [(aL p s data ((p.regs.getD i aM).next)).1].map (ac .i64) = (tab (fun z => (aL p s data (p.regs.getD z aM).next).1) (i + 1)).map (ac .i64))∧TT 3 (W6 ((i + 1 : Nat) : Int)∧TT 1 (AG (nJ p s data) i (i + 1))))))) (TT 1 (GO (ko p s data i) 0 (∀ j,(ko p s data i).inv j → TT 6 (CD ((j : Int) < (p.mems.length : Int)) (TT 4 (IX (j : Int) p.mems.length∧TT 3 (au [] (([] : List Int).map (ac .i64))∧TT 4 (IX (j : Int) s.mems.length∧TT 1 ((([] : List Int).length + ((s.mems.getD j []).map (ac .i64)).length ≤ 137438953472∧([] : List Int).map (ac .i64) ++ (s.mems.getD j []).map (ac .i64) = (s.mems.getD j []).map (ac .i64))∧TT 4 (CC (wL p s data ((p.mems.getD j ax).enable))∧CB (dK p s data ((p.mems.getD j ax).enable)) (TT 4 (CC (uj p s data 2 ((p.mems.getD j ax).addr))∧TT 3 (((p.mems.getD j ax).words) ≠ 0∧TT 3 (CC (uj p s data 2 ((p.mems.getD j ax).data))∧TT 1 (IX (Int.tmod ((aL p s data ((p.mems.getD j ax).addr)).1) ((p.mems.getD j ax).words)) ((s.mems.getD j []).length)∧((Int.tmod ((aL p s data ((p.mems.getD j ax).addr)).1) ((p.mems.getD j ax).words)).toNat < (s.mems.getD j []).length∧((s.mems.getD j []).map (ac .i64)).set ((Int.tmod ((aL p s data ((p.mems.getD j ax).addr)).1) ((p.mems.getD j ax).words)).toNat) (((ac .i64) ((s.mems.getD j []).getD ((Int.tmod ((aL p s data ((p.mems.getD j ax).addr)).1) ((p.mems.getD j ax).words)).toNat) 0)).take 0 ++ [(.int .i64 ((aL p s data ((p.mems.getD j ax).data)).1))] ++ ((ac .i64) ((s.mems.getD j []).getD ((Int.tmod ((aL p s data ((p.mems.getD j ax).addr)).1) ((p.mems.getD j ax).words)).toNat) 0)).drop (0 + 1)) = ((s.mems.getD j []).set ((Int.tmod ((aL p s data ((p.mems.getD j ax).addr)).1) ((p.mems.getD j ax).words)).toNat) ((aL p s data ((p.mems.getD j ax).data)).1)).map (ac .i64))∧TT 3 (au [[(LI ((s.mems.getD j []).set ((Int.tmod ((aL p s data ((p.mems.getD j ax).addr)).1) ((p.mems.getD j ax).words)).toNat) ((aL p s data ((p.mems.getD j ax).data)).1)))]] ([(s.mems.getD j []).set ((Int.tmod ((aL p s data ((p.mems.getD j ax).addr)).1) ((p.mems.getD j ax).words)).toNat) ((aL p s data ((p.mems.getD j ax).data)).1)].map ao)∧((tab (od p s data) j).length + ([(s.mems.getD j []).set ((Int.tmod ((aL p s data ((p.mems.getD j ax).addr)).1) ((p.mems.getD j ax).words)).toNat) ((aL p s data ((p.mems.getD j ax).data)).1)].map ao).length ≤ 137438953472∧(tab (od p s data) j).map ao ++ [(s.mems.getD j []).set ((Int.tmod ((aL p s data ((p.mems.getD j ax).addr)).1) ((p.mems.getD j ax).words)).toNat) ((aL p s data ((p.mems.getD j ax).data)).1)].map ao = (tab (od p s data) (j + 1)).map ao)∧TT 3 (W6 ((j + 1 : Nat) : Int)∧TT 1 (AG (ko p s data i) j (j + 1))))))))) (TT 3 (au [[(LI (s.mems.getD j []))]] ([s.mems.getD j []].map ao)∧((tab (od p s data) j).length + ([s.mems.getD j []].map ao).length ≤ 137438953472∧(tab (od p s data) j).map ao ++ [s.mems.getD j []].map ao = (tab (od p s data) (j + 1)).map ao)∧TT 3 (W6 ((j + 1 : Nat) : Int)∧TT 1 (AG (ko p s data i) j (j + 1))))))))))) (TT 3 ((tab (fun z => (aL p s data (p.regs.getD z aM).next).1) i).map (ac .i64) = ((cf p s data).regs).map (ac .i64)∧(tab (od p s data) j).map ao = ((cf p s data).mems).map ao∧True)))))))))) (.g 2 2 0 3 1 (ac .i64) 0 <| .l (nJ p s data) 0 (fun i => .b 14 (.w 5 [(10,(uj p s data 2 ((p.regs.getD i aM).next)).O),(12,.box 3 1 (ac .i64) 0 [(aL p s data ((p.regs.getD i aM).next)).1]),(13,.box 3 1 (ac .i64) 0 (tab (fun z => (aL p s data (p.regs.getD z aM).next).1) (i + 1)))] <| .w 4 [(1,.val (i6 ((i + 1 : Nat) : Int)))] <| .e) (.g 6 2 1 26 1 ao [] <| .l (ko p s data i) 0 (fun j => .b 37 (.w 10 [(0,.box 3 1 (ac .i64) 0 ([] : List Int)),(7,.box 3 1 (ac .i64) 0 (s.mems.getD j []))] <| .w 11 [(3,(wL p s data ((p.mems.getD j ax).enable)).O)] <| .b 57 (.w 12 [(4,(uj p s data 2 ((p.mems.getD j ax).addr)).O),(12,(uj p s data 2 ((p.mems.getD j ax).data)).O),(15,.box 3 1 (ac .i64) 0 ((s.mems.getD j []).set ((Int.tmod ((aL p s data ((p.mems.getD j ax).addr)).1) ((p.mems.getD j ax).words)).toNat) ((aL p s data ((p.mems.getD j ax).data)).1)))] <| .f 13 6 <| .w 13 [(3,.box 26 1 ao [] [(s.mems.getD j []).set ((Int.tmod ((aL p s data ((p.mems.getD j ax).addr)).1) ((p.mems.getD j ax).words)).toNat) ((aL p s data ((p.mems.getD j ax).data)).1)]),(4,.box 26 1 ao [] (tab (od p s data) (j + 1)))] <| .w 8 [(1,.val (i6 ((j + 1 : Nat) : Int)))] <| .e) (.f 13 6 <| .w 13 [(3,.box 26 1 ao [] [s.mems.getD j []]),(4,.box 26 1 ao [] (tab (od p s data) (j + 1)))] <| .w 8 [(1,.val (i6 ((j + 1 : Nat) : Int)))] <| .e)) (.e))))) Try.func45 rfl rfl rfl (by kernel_rfl) ?_
 refine tt ⟨rfl,(by omega),?_⟩
 intro i hinv
 have hi := hinv
 refine tt (cd (fun hc14 => ?_) (fun hc14 => ?_))
 · have hrn := hp.rw i (by omega)
   refine tt ⟨ix,tt ⟨(gL ho hmw 2 ((p.regs.getD i aM).next) _ hrn.2.2.1 hrn.2.2.2),tt ⟨⟨⟨rfl,oK⟩,oK⟩,⟨(jp (f := fun z => (aL p s data (p.regs.getD z aM).next).1) (by omega)),tt ⟨w6,tt ⟨(i + 1),rfl,(?_ : (i + 1) ≤ p.regs.length),(?_ : p.regs.length - (i + 1) < p.regs.length - i)⟩⟩⟩⟩⟩⟩
   · omega
   · omega
 · refine tt ⟨rfl,(by omega),?_⟩
   intro j hinv
   have hj := hinv
   refine tt (cd (fun hc37 => ?_) (fun hc37 => ?_))
   · have hmz : 1 ≤ (p.mems.getD j ax).words∧(p.mems.getD j ax).words ≤ 4 := (hp.mw j (by omega)).2.1
     have hml : ((s.mems.getD j []).length : Int) = (p.mems.getD j ax).words := hso.mn j (by omega)
     have hme := (hp.mw j (by omega)).2.2.1
     have hmb := (hp.mw j (by omega)).2.2.2
     obtain ⟨va,hma⟩ := hmb.1.1
     have had : 0 ≤ Int.tmod (aL p s data (p.mems.getD j ax).addr).1 (p.mems.getD j ax).words∧Int.tmod (aL p s data (p.mems.getD j ax).addr).1 (p.mems.getD j ax).words < (s.mems.getD j []).length∧(p.mems.getD j ax).words ≠ 0 := xW hp hso hda (show j < p.mems.length by omega)
     refine tt ⟨ix,tt ⟨oK,tt ⟨ix,tt ⟨⟨by simp only [List.length_map,List.length_nil]; omega,by simp⟩,tt ⟨(rK p s data ((p.mems.getD j ax).enable) ho hmw hme.1 hme.2),⟨fun hc57 => ?_,fun hc57 => ?_⟩⟩⟩⟩⟩⟩
     · refine tt ⟨(gL ho hmw 2 ((p.mems.getD j ax).addr) _ hma hmb.1.2),tt ⟨om,tt ⟨(gL ho hmw 2 ((p.mems.getD j ax).data) _ hmb.2.1 hmb.2.2),tt ⟨ix,⟨⟨om,by simp only [List.map_set]; rfl⟩,tt ⟨⟨⟨rfl,oK⟩,oK⟩,⟨(bO (by omega) (by first | exact ub hc57 | exact xV (by rw [hc57]; simp))),tt ⟨w6,tt ⟨(j + 1),rfl,(?_ : (j + 1) ≤ p.mems.length),(?_ : p.mems.length - (j + 1) < p.mems.length - j)⟩⟩⟩⟩⟩⟩⟩⟩⟩
       · omega
       · omega
     · refine tt ⟨⟨⟨rfl,oK⟩,oK⟩,⟨(bO (by omega) (by first | exact ub hc57 | exact xV (by rw [hc57]; simp))),tt ⟨w6,tt ⟨(j + 1),rfl,(?_ : (j + 1) ≤ p.mems.length),(?_ : p.mems.length - (j + 1) < p.mems.length - j)⟩⟩⟩⟩
       · omega
       · omega
   · refine tt ⟨(congrArg _ (?_ : (tab (fun z => (aL p s data (p.regs.getD z aM).next).1) i) = ((cf p s data).regs))),(congrArg _ (?_ : (tab (od p s data) j) = ((cf p s data).mems))),oK⟩
     · rw [show i = p.regs.length by omega]; rfl
     · rw [show j = p.mems.length by omega]; rfl
abbrev EL (p : Pr) (s : Ps) (hs : List Hd) (rs : List Bool) : Ct := ⟨22,[(x5 p),(.agg (kn s)),(.agg [(dL 2 cK bp hs),(LB rs)])],true,(.agg [(dB ((az p s hs rs).fires)),(LI (((az p s hs rs).s).regs)),(dL 1 ao [] (((az p s hs rs).s).mems)),(LB ((az p s hs rs).pops)),(dL 2 cK bp ((az p s hs rs).puts))])⟩
abbrev gn (p : Pr) (s : Ps) (hs : List Hd) (rs : List Bool) : Lp (Nat × Bool) := xu [3,5,6,7,8,9] 16 (fun (i : Nat) (fir : Bool) => ⟨[(3,f9),(5,(.ptr 2 0 0 0)),(6,(.ptr 3 0 0 0)),(7,(.ptr 4 0 0 0)),(8,(.ptr 15 0 0 0)),(9,(i6 (i : Int)))],[(l6 p),(.var 29 (kn s)),(.var 43 [(dL 2 cK bp hs),(LB rs)]),x6,(x4 p s hs),.dead,.dead,.dead,.dead,(.arr 4 1 b6 false (List.replicate p.takes.length false)),.dead,.dead,.dead,(.arr 69 2 cK bp (List.replicate p.puts.length bp)),.dead,(.var 51 [(dB fir),(LI s.regs),(dL 1 ao [] s.mems),(.own 9),(.own 13)])]⟩) (fun (i : Nat) (fir : Bool) => i ≤ p.takes.length∧fir = ee (jo p s hs) i) (fun (i : Nat) (fir : Bool) => p.takes.length - i)
abbrev gp (p : Pr) (s : Ps) (hs : List Hd) (rs : List Bool) (fir : Bool) : Lp (Nat × Bool) := xu [3,5,6,7,8,10] 16 (fun (m : Nat) (fi2 : Bool) => ⟨[(3,f9),(5,(.ptr 2 0 0 0)),(6,(.ptr 3 0 0 0)),(7,(.ptr 4 0 0 0)),(8,(.ptr 15 0 0 0)),(10,(i6 (m : Int)))],[(l6 p),(.var 29 (kn s)),(.var 43 [(dL 2 cK bp hs),(LB rs)]),x6,(x4 p s hs),.dead,.dead,.dead,.dead,(.arr 4 1 b6 false (List.replicate p.takes.length false)),.dead,.dead,.dead,(.arr 69 2 cK bp (List.replicate p.puts.length bp)),.dead,(.var 51 [(dB fi2),(LI s.regs),(dL 1 ao [] s.mems),(.own 9),(.own 13)])]⟩) (fun (m : Nat) (fi2 : Bool) => m ≤ p.puts.length∧fi2 = (fir && ee (ke p s hs rs) m)) (fun (m : Nat) (fi2 : Bool) => p.puts.length - m)
abbrev lj (p : Pr) (s : Ps) (hs : List Hd) (rs : List Bool) (fi2 : Bool) : Lp (Nat × List Bool) := xu [3,6,7,8,11] 16 (fun (q : Nat) (pop : List Bool) => ⟨[(3,f9),(6,(.ptr 3 0 0 0)),(7,(.ptr 4 0 0 0)),(8,(.ptr 15 0 0 0)),(11,(i6 (q : Int)))],[(l6 p),(.var 29 (kn s)),(.var 43 [(dL 2 cK bp hs),(LB rs)]),x6,(x4 p s hs),.dead,.dead,.dead,.dead,(.arr 4 1 b6 false pop),.dead,.dead,.dead,(.arr 69 2 cK bp (List.replicate p.puts.length bp)),.dead,(.var 51 [(dB fi2),(LI ((cf p s (bI p s hs)).regs)),(dL 1 ao [] ((cf p s (bI p s hs)).mems)),(.own 9),(.own 13)])]⟩) (fun (q : Nat) (pop : List Bool) => q ≤ p.takes.length∧pop = da (rA p s hs) (List.replicate p.takes.length false) q) (fun (q : Nat) (pop : List Bool) => p.takes.length - q)
abbrev iX (p : Pr) (s : Ps) (hs : List Hd) (rs : List Bool) (fi2 : Bool) (pop : List Bool) : Lp (Nat × List Hd) := xu [3,6,7,8,12] 16 (fun (t : Nat) (put : List Hd) => ⟨[(3,f9),(6,(.ptr 3 0 0 0)),(7,(.ptr 4 0 0 0)),(8,(.ptr 15 0 0 0)),(12,(i6 (t : Int)))],[(l6 p),(.var 29 (kn s)),(.var 43 [(dL 2 cK bp hs),(LB rs)]),x6,(x4 p s hs),.dead,.dead,.dead,.dead,(.arr 4 1 b6 false pop),.dead,.dead,.dead,(.arr 69 2 cK bp put),.dead,(.var 51 [(dB fi2),(LI ((cf p s (bI p s hs)).regs)),(dL 1 ao [] ((cf p s (bI p s hs)).mems)),(.own 9),(.own 13)])]⟩) (fun (t : Nat) (put : List Hd) => t ≤ p.puts.length∧put = da (rB p s hs) (List.replicate p.puts.length bp) t) (fun (t : Nat) (put : List Hd) => p.puts.length - t)
theorem y2 (p : Pr) (s : Ps) (hs : List Hd) (rs : List Bool) (hp : cZ p) (hso : kf p s) (hh : sn p hs) (hrs : rs.length = p.puts.length) : CC (EL p s hs rs) := by
 have ht1 := hp.tl
 have ht2 := hp.pl
 have hhl := hh.l
 have hmw := hso.mn
 have ho := dr hp hso (rD (s := s) (hs := hs) hp hh)
 have hda := rD (s := s) (hs := hs) hp hh
 refine ah.vc (V := TT 7 (CC (EJ p s hs rs)∧TT 6 ((((0 : Int) ≤ (p.takes.length : Int)∧(p.takes.length : Int) ≤ (p.takes.length : Int)∧(p.takes.length : Int) ≤ 137438953472)∧(List.replicate p.takes.length false).length = p.takes.length∧∀ x ∈ (List.replicate p.takes.length false),ec [(dB false)] (b6 x))∧TT 3 ((((0 : Int) ≤ (p.puts.length : Int)∧(p.puts.length : Int) ≤ (p.puts.length : Int)∧(p.puts.length : Int) ≤ 137438953472)∧(List.replicate p.puts.length bp).length = p.puts.length∧∀ x ∈ (List.replicate p.puts.length bp),ec [(dB false),(i6 0)] (cK x))∧TT 4 (GO (gn p s hs rs) (0,true) (∀ i fir,(gn p s hs rs).inv (i,fir) → TT 5 (CD ((i : Int) < (p.takes.length : Int)) (CS (fir = true) (CS (((hs.getD i bp).has) = true) (TT 2 ((True∧fir = true)∧TT 3 (IX (i : Int) hs.length∧TT 2 ((True∧((hs.getD i bp).has) = true)∧TT 5 (W6 ((i + 1 : Nat) : Int)∧TT 1 (AG (gn p s hs rs) (i,fir) (i + 1,true))))))) (TT 2 ((True∧fir = true)∧TT 3 (IX (i : Int) hs.length∧TT 2 ((True∧((hs.getD i bp).has) = false)∧TT 4 (IX (i : Int) p.takes.length∧TT 2 (CC (wL p s (bI p s hs) ((p.takes.getD i aX).when))∧TT 6 (W6 ((i + 1 : Nat) : Int)∧TT 1 (AG (gn p s hs rs) (i,fir) (i + 1,!(dK p s (bI p s hs) ((p.takes.getD i aX).when)))))))))))) (TT 2 ((True∧fir = false)∧TT 4 (W6 ((i + 1 : Nat) : Int)∧TT 1 (AG (gn p s hs rs) (i,fir) (i + 1,false)))))) (TT 1 (GO (gp p s hs rs fir) (0,fir) (∀ m fi2,(gp p s hs rs fir).inv (m,fi2) → TT 5 (CD ((m : Int) < (p.puts.length : Int)) (CS (fi2 = true) (CS ((rs.getD m false) = true) (TT 2 ((True∧fi2 = true)∧TT 3 (IX (m : Int) rs.length∧TT 1 ((True∧(rs.getD m false) = true)∧TT 5 (W6 ((m + 1 : Nat) : Int)∧TT 1 (AG (gp p s hs rs fir) (m,fi2) (m + 1,true))))))) (TT 2 ((True∧fi2 = true)∧TT 3 (IX (m : Int) rs.length∧TT 1 ((True∧(rs.getD m false) = false)∧TT 4 (IX (m : Int) p.puts.length∧TT 2 (CC (wL p s (bI p s hs) ((p.puts.getD m bg).when))∧TT 6 (W6 ((m + 1 : Nat) : Int)∧TT 1 (AG (gp p s hs rs fir) (m,fi2) (m + 1,!(dK p s (bI p s hs) ((p.puts.getD m bg).when)))))))))))) (TT 2 ((True∧fi2 = false)∧TT 4 (W6 ((m + 1 : Nat) : Int)∧TT 1 (AG (gp p s hs rs fir) (m,fi2) (m + 1,false)))))) (TT 3 (CB (!fi2) (TT 3 (fi2 = ((az p s hs rs).fires)∧s.regs.map (ac .i64) = (((az p s hs rs).s).regs).map (ac .i64)∧s.mems.map ao = (((az p s hs rs).s).mems).map ao∧(List.replicate p.takes.length false).map b6 = ((az p s hs rs).pops).map b6∧(List.replicate p.puts.length bp).map cK = ((az p s hs rs).puts).map cK∧True)) (TT 1 (CC (EK p s (bI p s hs))∧TT 3 (GO (lj p s hs rs fi2) (0,List.replicate p.takes.length false) (∀ q pop,(lj p s hs rs fi2).inv (q,pop) → TT 5 (CD ((q : Int) < (p.takes.length : Int)) (TT 7 (IX (q : Int) p.takes.length∧TT 2 (CC (wL p s (bI p s hs) ((p.takes.getD q aX).when))∧IX (q : Int) pop.length∧(q < pop.length∧(pop.map b6).set q ((b6 (pop.getD q false)).take 0 ++ [(.bool (dK p s (bI p s hs) ((p.takes.getD q aX).when)))] ++ (b6 (pop.getD q false)).drop (0 + 1)) = (pop.set q (dK p s (bI p s hs) ((p.takes.getD q aX).when))).map b6)∧TT 1 (W6 ((q + 1 : Nat) : Int)∧TT 1 (AG (lj p s hs rs fi2) (q,pop) (q + 1,pop.set q (dK p s (bI p s hs) ((p.takes.getD q aX).when)))))))) (TT 1 (GO (iX p s hs rs fi2 pop) (0,List.replicate p.puts.length bp) (∀ t put,(iX p s hs rs fi2 pop).inv (t,put) → TT 5 (CD ((t : Int) < (p.puts.length : Int)) (TT 4 (IX (t : Int) p.puts.length∧TT 2 (CC (wL p s (bI p s hs) ((p.puts.getD t bg).when))∧CB (dK p s (bI p s hs) ((p.puts.getD t bg).when)) (TT 7 (IX (t : Int) p.puts.length∧TT 2 (CC (uj p s (bI p s hs) 2 ((p.puts.getD t bg).data))∧TT 2 (IX (t : Int) put.length∧(t < put.length∧(put.map cK).set t ((cK (put.getD t bp)).take 0 ++ [(.bool true),(.int .i64 ((aL p s (bI p s hs) ((p.puts.getD t bg).data)).1))] ++ (cK (put.getD t bp)).drop (0 + 2)) = (put.set t (⟨true,(aL p s (bI p s hs) ((p.puts.getD t bg).data)).1⟩ : Hd)).map cK)∧TT 1 (W6 ((t + 1 : Nat) : Int)∧TT 1 (AG (iX p s hs rs fi2 pop) (t,put) (t + 1,put.set t (⟨true,(aL p s (bI p s hs) ((p.puts.getD t bg).data)).1⟩ : Hd)))))))) (TT 1 (W6 ((t + 1 : Nat) : Int)∧TT 1 (AG (iX p s hs rs fi2 pop) (t,put) (t + 1,put))))))) (TT 3 (fi2 = ((az p s hs rs).fires)∧((cf p s (bI p s hs)).regs).map (ac .i64) = (((az p s hs rs).s).regs).map (ac .i64)∧((cf p s (bI p s hs)).mems).map ao = (((az p s hs rs).s).mems).map ao∧pop.map b6 = ((az p s hs rs).pops).map b6∧put.map cK = ((az p s hs rs).puts).map cK∧True)))))))))))))))))))))))) (.w 1 [(3,(EJ p s hs rs).O)] <| .w 2 [(4,.box 4 1 b6 false (List.replicate p.takes.length false)),(8,.box 69 2 cK bp (List.replicate p.puts.length bp))] <| .l (gn p s hs rs) (0,true) (fun ⟨i,fir⟩ => .b 31 (.s 6 (fir = true) (.s 6 (((hs.getD i bp).has) = true) (.w 6 [(2,.val (dB true)),(9,.val (dB true))] <| .w 5 [(1,.val (i6 ((i + 1 : Nat) : Int)))] <| .e) (.w 6 [(2,.val (dB true)),(9,.val (dB false)),(17,(wL p s (bI p s hs) ((p.takes.getD i aX).when)).O)] <| .w 5 [(1,.val (i6 ((i + 1 : Nat) : Int)))] <| .e)) (.w 6 [(2,.val (dB false))] <| .w 5 [(1,.val (i6 ((i + 1 : Nat) : Int)))] <| .e)) (.l (gp p s hs rs fir) (0,fir) (fun ⟨m,fi2⟩ => .b 60 (.s 10 (fi2 = true) (.s 10 ((rs.getD m false) = true) (.w 10 [(2,.val (dB true)),(8,.val (dB true))] <| .w 9 [(1,.val (i6 ((m + 1 : Nat) : Int)))] <| .e) (.w 10 [(2,.val (dB true)),(8,.val (dB false)),(16,(wL p s (bI p s hs) ((p.puts.getD m bg).when)).O)] <| .w 9 [(1,.val (i6 ((m + 1 : Nat) : Int)))] <| .e)) (.w 10 [(2,.val (dB false))] <| .w 9 [(1,.val (i6 ((m + 1 : Nat) : Int)))] <| .e)) (.b 86 (.e) (.w 13 [(1,(EK p s (bI p s hs)).O)] <| .l (lj p s hs rs fi2) (0,List.replicate p.takes.length false) (fun ⟨q,pop⟩ => .b 95 (.w 17 [(10,(wL p s (bI p s hs) ((p.takes.getD q aX).when)).O),(12,.box 4 1 b6 false (pop.set q (dK p s (bI p s hs) ((p.takes.getD q aX).when))))] <| .w 16 [(1,.val (i6 ((q + 1 : Nat) : Int)))] <| .e) (.l (iX p s hs rs fi2 pop) (0,List.replicate p.puts.length bp) (fun ⟨t,put⟩ => .b 114 (.w 21 [(7,(wL p s (bI p s hs) ((p.puts.getD t bg).when)).O)] <| .b 124 (.w 22 [(10,(uj p s (bI p s hs) 2 ((p.puts.getD t bg).data)).O),(14,.box 69 2 cK bp (put.set t (⟨true,(aL p s (bI p s hs) ((p.puts.getD t bg).data)).1⟩ : Hd)))] <| .w 20 [(1,.val (i6 ((t + 1 : Nat) : Int)))] <| .e) (.w 20 [(1,.val (i6 ((t + 1 : Nat) : Int)))] <| .e)) (.e)))))))))) Try.func22 rfl rfl rfl (by kernel_rfl) ?_
 refine tt ⟨(wM p s hs rs hp hso hh),tt ⟨⟨by omega,List.length_replicate,fun x hx => by rw [List.eq_of_mem_replicate hx]; exact ⟨rfl,oK⟩⟩,tt ⟨⟨by omega,List.length_replicate,fun x hx => by rw [List.eq_of_mem_replicate hx]; exact ⟨rfl,rfl,oK⟩⟩,tt ⟨rfl,⟨by omega,rfl⟩,?_⟩⟩⟩⟩
 intro i fir hinv
 obtain ⟨hi,hfir⟩ := hinv
 refine tt (cd (fun hc31 => ?_) (fun hc31 => ?_))
 · have hwh := nu hp (show i < p.takes.length by omega)
   refine ⟨fun hs0 => ?_,fun hs0 => ?_⟩
   · refine ⟨fun hs1 => ?_,fun hs1 => ?_⟩
     · refine tt ⟨(bT hs0),tt ⟨ix,tt ⟨(bT hs1),tt ⟨w6,tt ⟨(i + 1,true),rfl,?_,(?_ : p.takes.length - (i + 1) < p.takes.length - i)⟩⟩⟩⟩⟩
       · exact ⟨by omega,kg hfir _ (by unfold jo; clear hfir; cases fir <;> simp_all)⟩
       · omega
     · refine tt ⟨(bT hs0),tt ⟨ix,tt ⟨(bF hs1),tt ⟨ix,tt ⟨(rK p s (bI p s hs) ((p.takes.getD i aX).when) ho hmw hwh.1 hwh.2),tt ⟨w6,tt ⟨(i + 1,!(dK p s (bI p s hs) ((p.takes.getD i aX).when))),rfl,?_,(?_ : p.takes.length - (i + 1) < p.takes.length - i)⟩⟩⟩⟩⟩⟩⟩
       · exact ⟨by omega,kg hfir _ (by unfold jo; clear hfir; cases fir <;> simp_all)⟩
       · omega
   · refine tt ⟨(bF hs0),tt ⟨w6,tt ⟨(i + 1,false),rfl,?_,(?_ : p.takes.length - (i + 1) < p.takes.length - i)⟩⟩⟩
     · exact ⟨by omega,kg hfir _ (by unfold jo; clear hfir; cases fir <;> simp_all)⟩
     · omega
 · refine tt ⟨rfl,⟨by omega,by simp [ee]⟩,?_⟩
   intro m fi2 hinv
   obtain ⟨hm,hfi2⟩ := hinv
   refine tt (cd (fun hc60 => ?_) (fun hc60 => ?_))
   · have hpw := hp.pw m (by omega)
     refine ⟨fun hs2 => ?_,fun hs2 => ?_⟩
     · refine ⟨fun hs3 => ?_,fun hs3 => ?_⟩
       · refine tt ⟨(bT hs2),tt ⟨ix,tt ⟨(bT hs3),tt ⟨w6,tt ⟨(m + 1,true),rfl,?_,(?_ : p.puts.length - (m + 1) < p.puts.length - m)⟩⟩⟩⟩⟩
         · exact ⟨by omega,o8 hfi2 _ (by unfold ke; clear hfi2 hfir; cases fi2 <;> simp_all)⟩
         · omega
       · refine tt ⟨(bT hs2),tt ⟨ix,tt ⟨(bF hs3),tt ⟨ix,tt ⟨(rK p s (bI p s hs) ((p.puts.getD m bg).when) ho hmw hpw.2.1.1 hpw.2.1.2),tt ⟨w6,tt ⟨(m + 1,!(dK p s (bI p s hs) ((p.puts.getD m bg).when))),rfl,?_,(?_ : p.puts.length - (m + 1) < p.puts.length - m)⟩⟩⟩⟩⟩⟩⟩
         · exact ⟨by omega,o8 hfi2 _ (by unfold ke; clear hfi2 hfir; cases fi2 <;> simp_all)⟩
         · omega
     · refine tt ⟨(bF hs2),tt ⟨w6,tt ⟨(m + 1,false),rfl,?_,(?_ : p.puts.length - (m + 1) < p.puts.length - m)⟩⟩⟩
       · exact ⟨by omega,o8 hfi2 _ (by unfold ke; clear hfi2 hfir; cases fi2 <;> simp_all)⟩
       · omega
   · have hie : i = p.takes.length := by omega
     have hme : m = p.puts.length := by omega
     refine tt ⟨fun hc86 => ?_,fun hc86 => ?_⟩
     · refine tt ⟨?_,(congrArg _ (?_ : s.regs = (((az p s hs rs).s).regs))),(congrArg _ (?_ : s.mems = (((az p s hs rs).s).mems))),(congrArg _ (?_ : (List.replicate p.takes.length false) = ((az p s hs rs).pops))),(congrArg _ (?_ : (List.replicate p.puts.length bp) = ((az p s hs rs).puts))),oK⟩
       all_goals
         rw [xP (by rw [kS (rs := rs) (a := fir) (b := fi2) (by rw [hfir,hie]) (by rw [hfi2,hme])]; simpa using hc86)]
         first | done | rfl | simpa using hc86
     · refine tt ⟨(Aq p s (bI p s hs) hp hso hda),tt ⟨rfl,⟨by omega,rfl⟩,?_⟩⟩
       intro q pop hinv
       obtain ⟨hq,hpop⟩ := hinv
       have hpl : pop.length = p.takes.length := by rw [hpop,cv (by rw [List.length_replicate]; exact hq),List.length_replicate]
       refine tt (cd (fun hc95 => ?_) (fun hc95 => ?_))
       · have hwh := nu hp (show q < p.takes.length by omega)
         refine tt ⟨ix,tt ⟨(rK p s (bI p s hs) ((p.takes.getD q aX).when) ho hmw hwh.1 hwh.2),⟨ix,⟨⟨om,by simp only [List.map_set]; rfl⟩,tt ⟨w6,tt ⟨(q + 1,pop.set q (dK p s (bI p s hs) ((p.takes.getD q aX).when))),rfl,?_,(?_ : p.takes.length - (q + 1) < p.takes.length - q)⟩⟩⟩⟩⟩⟩
         · exact ⟨by omega,by rw [hpop]; exact bN (by rw [List.length_replicate]; omega) rfl⟩
         · omega
       · refine tt ⟨rfl,⟨by omega,rfl⟩,?_⟩
         intro t put hinv
         obtain ⟨ht,hput⟩ := hinv
         have hql : put.length = p.puts.length := by rw [hput,cv (by rw [List.length_replicate]; exact ht),List.length_replicate]
         refine tt (cd (fun hc114 => ?_) (fun hc114 => ?_))
         · have hpw := hp.pw t (by omega)
           refine tt ⟨ix,tt ⟨(rK p s (bI p s hs) ((p.puts.getD t bg).when) ho hmw hpw.2.1.1 hpw.2.1.2),⟨fun hc124 => ?_,fun hc124 => ?_⟩⟩⟩
           · refine tt ⟨ix,tt ⟨(gL ho hmw 2 ((p.puts.getD t bg).data) _ hpw.2.2.1 hpw.2.2.2),tt ⟨ix,⟨⟨om,by simp only [List.map_set]; rfl⟩,tt ⟨w6,tt ⟨(t + 1,put.set t (⟨true,(aL p s (bI p s hs) ((p.puts.getD t bg).data)).1⟩ : Hd)),rfl,?_,(?_ : p.puts.length - (t + 1) < p.puts.length - t)⟩⟩⟩⟩⟩⟩
             · exact ⟨by omega,by rw [hput]; exact bN (by rw [List.length_replicate]; omega) (if_pos hc124)⟩
             · omega
           · refine tt ⟨w6,tt ⟨(t + 1,put),rfl,?_,(?_ : p.puts.length - (t + 1) < p.puts.length - t)⟩⟩
             · exact ⟨by omega,by rw [hput]; exact eW (d := bp) (by rw [List.length_replicate]; omega) ((if_neg (by rw [hc124]; simp)).trans iU.symm)⟩
             · omega
         · refine tt ⟨?_,(congrArg _ (?_ : ((cf p s (bI p s hs)).regs) = (((az p s hs rs).s).regs))),(congrArg _ (?_ : ((cf p s (bI p s hs)).mems) = (((az p s hs rs).s).mems))),(congrArg _ (?_ : pop = ((az p s hs rs).pops))),(congrArg _ (?_ : put = ((az p s hs rs).puts))),oK⟩
           all_goals
             rw [xQ (by rw [kS (rs := rs) (a := fir) (b := fi2) (by rw [hfir,hie]) (by rw [hfi2,hme])]; simpa using hc86)]
             first | done | (simpa using hc86) | (rw [hpop,show q = p.takes.length by omega,cr (by rw [List.length_replicate]; exact Nat.le_refl _)]) | (rw [hput,show t = p.puts.length by omega,cr (by rw [List.length_replicate]; exact Nat.le_refl _)])
abbrev CX (a b : List Int) : Ct := ⟨42,[(LI a),(LI b)],false,(dB (decide (a = b)))⟩
abbrev qp (a : List Int) (b : List Int) : Lp (Nat) := io [0,1,5] 0 (fun (k : Nat) => ⟨[(0,(LI a)),(1,(LI b)),(5,(i6 (k : Int)))],[]⟩) (fun (k : Nat) => k ≤ a.length∧∀ z,z < k → a.getD z 0 = b.getD z 0) (fun (k : Nat) => a.length - k)
theorem uk (a b : List Int) (ha : a.length ≤ 9223372036854775807) : CC (CX a b) := by
 refine ah.vc (V := TT 6 (CN ((a.length : Int) = (b.length : Int)) (TT 2 (false = (decide (a = b))∧True)) (TT 1 (GO (qp a b) 0 (∀ k,(qp a b).inv k → TT 4 (CD ((k : Int) < (a.length : Int)) (TT 2 (IX (k : Int) a.length∧TT 3 (IX (k : Int) b.length∧TT 2 (CN ((a.getD k 0) = (b.getD k 0)) (TT 2 (false = (decide (a = b))∧True)) (TT 1 (W6 ((k + 1 : Nat) : Int)∧TT 1 (AG (qp a b) k (k + 1)))))))) (TT 2 (true = (decide (a = b))∧True)))))))) (.b 10 (.e) (.l (qp a b) 0 (fun k => .b 14 (.b 25 (.e) (.w 5 [(1,.val (i6 ((k + 1 : Nat) : Int)))] <| .e)) (.e)))) Try.func42 rfl rfl rfl (by kernel_rfl) ?_
 refine tt (cn (fun hc10 => ?_) (fun hc10 => ?_))
 · refine tt ⟨?_,oK⟩
   first | exact (decide_eq_false (fun e => by subst e; omega)).symm | exact (decide_eq_false (same_no (k := k) (by simpa using hc25))).symm | exact (decide_eq_true (cg (by omega) (by omega) hall)).symm
 · refine tt ⟨rfl,⟨by omega,fun z hz => by omega⟩,?_⟩
   intro k hinv
   obtain ⟨hk,hall⟩ := hinv
   refine tt (cd (fun hc14 => ?_) (fun hc14 => ?_))
   · refine tt ⟨ix,tt ⟨ix,tt (cn (fun hc25 => ?_) (fun hc25 => ?_))⟩⟩
     · refine tt ⟨?_,oK⟩
       first | exact (decide_eq_false (fun e => by subst e; omega)).symm | exact (decide_eq_false (same_no (k := k) (by simpa using hc25))).symm | exact (decide_eq_true (cg (by omega) (by omega) hall)).symm
     · refine tt ⟨w6,tt ⟨(k + 1),rfl,?_,(?_ : a.length - (k + 1) < a.length - k)⟩⟩
       · exact ⟨by omega,ew hall (by simpa using hc25)⟩
       · omega
   · refine tt ⟨?_,oK⟩
     first | exact (decide_eq_false (fun e => by subst e; omega)).symm | exact (decide_eq_false (same_no (k := k) (by simpa using hc25))).symm | exact (decide_eq_true (cg (by omega) (by omega) hall)).symm
abbrev y9 (a b : Ps) : Ct := ⟨17,[(.agg [(LI a.regs),(dL 1 ao [] a.mems)]),(.agg [(LI b.regs),(dL 1 ao [] b.mems)])],false,(dB (cy a b))⟩
abbrev lk (a : Ps) (b : Ps) : Lp (Nat) := io [2,3,5] 2 (fun (k : Nat) => ⟨[(2,f9),(3,(.ptr 1 0 0 0)),(5,(i6 (k : Int)))],[(.var 29 [(LI a.regs),(dL 1 ao [] a.mems)]),(.var 29 [(LI b.regs),(dL 1 ao [] b.mems)])]⟩) (fun (k : Nat) => k ≤ a.mems.length∧∀ z,z < k → a.mems.getD z [] = b.mems.getD z []) (fun (k : Nat) => a.mems.length - k)
theorem iY (a b : Ps) (ha : a.regs.length ≤ 9223372036854775807) (hb : a.mems.length ≤ 9223372036854775807) (hc : ∀ i,(a.mems.getD i []).length ≤ 9223372036854775807) : CC (y9 a b) := by
 refine ah.vc (V := TT 3 (CS (a.regs = b.regs) (TT 4 (CC (CX a.regs b.regs)∧TT 1 ((True∧(!decide (a.regs = b.regs)) = false)∧TT 8 (CN ((a.mems.length : Int) = (b.mems.length : Int)) (TT 2 (false = (cy a b)∧True)) (TT 1 (GO (lk a b) 0 (∀ k,(lk a b).inv k → TT 5 (CD ((k : Int) < (a.mems.length : Int)) (TT 3 (IX (k : Int) a.mems.length∧TT 4 (IX (k : Int) b.mems.length∧TT 1 (CC (CX (a.mems.getD k []) (b.mems.getD k []))∧TT 1 (CN ((a.mems.getD k []) = (b.mems.getD k [])) (TT 2 (false = (cy a b)∧True)) (TT 1 (W6 ((k + 1 : Nat) : Int)∧TT 1 (AG (lk a b) k (k + 1))))))))) (TT 2 (true = (cy a b)∧True)))))))))) (TT 4 (CC (CX a.regs b.regs)∧TT 1 ((True∧(!decide (a.regs = b.regs)) = true)∧TT 10 (false = (cy a b)∧True)))))) (.s 1 (a.regs = b.regs) (.w 1 [(4,(CX a.regs b.regs).O),(6,.val (dB false))] <| .b 20 (.e) (.l (lk a b) 0 (fun k => .b 25 (.w 6 [(10,(CX (a.mems.getD k []) (b.mems.getD k [])).O)] <| .b 39 (.e) (.w 5 [(1,.val (i6 ((k + 1 : Nat) : Int)))] <| .e)) (.e)))) (.w 1 [(4,(CX a.regs b.regs).O),(6,.val (dB true))] <| .e)) Try.func17 rfl rfl rfl (by kernel_rfl) ?_
 refine tt ⟨fun hs0 => ?_,fun hs0 => ?_⟩
 · refine tt ⟨(uk a.regs b.regs ha),tt ⟨(nF hs0),tt (cn (fun hc20 => ?_) (fun hc20 => ?_))⟩⟩
   · refine tt ⟨?_,oK⟩
     first | exact (jq (by simpa using hs0)).symm | exact (jr (by omega)).symm | exact (js (i := k) (by simpa using hc39)).symm | exact (jt (by simpa using hs0) (cg (by omega) (by omega) hall)).symm
   · refine tt ⟨rfl,⟨by omega,fun z hz => by omega⟩,?_⟩
     intro k hinv
     obtain ⟨hk,hall⟩ := hinv
     refine tt (cd (fun hc25 => ?_) (fun hc25 => ?_))
     · refine tt ⟨ix,tt ⟨ix,tt ⟨(uk (a.mems.getD k []) (b.mems.getD k []) (hc k)),tt (cn (fun hc39 => ?_) (fun hc39 => ?_))⟩⟩⟩
       · refine tt ⟨?_,oK⟩
         first | exact (jq (by simpa using hs0)).symm | exact (jr (by omega)).symm | exact (js (i := k) (by simpa using hc39)).symm | exact (jt (by simpa using hs0) (cg (by omega) (by omega) hall)).symm
       · refine tt ⟨w6,tt ⟨(k + 1),rfl,?_,(?_ : a.mems.length - (k + 1) < a.mems.length - k)⟩⟩
         · exact ⟨by omega,ew hall (by simpa using hc39)⟩
         · omega
     · refine tt ⟨?_,oK⟩
       first | exact (jq (by simpa using hs0)).symm | exact (jr (by omega)).symm | exact (js (i := k) (by simpa using hc39)).symm | exact (jt (by simpa using hs0) (cg (by omega) (by omega) hall)).symm
 · refine tt ⟨(uk a.regs b.regs ha),tt ⟨(nT hs0),tt ⟨?_,oK⟩⟩⟩
   first | exact (jq (by simpa using hs0)).symm | exact (jr (by omega)).symm | exact (js (i := k) (by simpa using hc39)).symm | exact (jt (by simpa using hs0) (cg (by omega) (by omega) hall)).symm
abbrev za (a b : Fi) : Ct := ⟨20,[(.agg [(dB a.fires),(LI a.s.regs),(dL 1 ao [] a.s.mems),(LB a.pops),(dL 2 cK bp a.puts)]),(.agg [(dB b.fires),(LI b.s.regs),(dL 1 ao [] b.s.mems),(LB b.pops),(dL 2 cK bp b.puts)])],false,(dB (ck a b))⟩
abbrev ll (a : Fi) (b : Fi) : Lp (Nat) := io [2,3,5] 2 (fun (k : Nat) => ⟨[(2,f9),(3,(.ptr 1 0 0 0)),(5,(i6 (k : Int)))],[(.var 51 [(dB a.fires),(LI a.s.regs),(dL 1 ao [] a.s.mems),(LB a.pops),(dL 2 cK bp a.puts)]),(.var 51 [(dB b.fires),(LI b.s.regs),(dL 1 ao [] b.s.mems),(LB b.pops),(dL 2 cK bp b.puts)])]⟩) (fun (k : Nat) => k ≤ a.pops.length∧∀ z,z < k → a.pops.getD z false = b.pops.getD z false) (fun (k : Nat) => a.pops.length - k)
abbrev lm (a : Fi) (b : Fi) : Lp (Nat) := io [2,3,6] 2 (fun (m : Nat) => ⟨[(2,f9),(3,(.ptr 1 0 0 0)),(6,(i6 (m : Int)))],[(.var 51 [(dB a.fires),(LI a.s.regs),(dL 1 ao [] a.s.mems),(LB a.pops),(dL 2 cK bp a.puts)]),(.var 51 [(dB b.fires),(LI b.s.regs),(dL 1 ao [] b.s.mems),(LB b.pops),(dL 2 cK bp b.puts)])]⟩) (fun (m : Nat) => m ≤ a.puts.length∧∀ z,z < m → fe (a.puts.getD z bp) (b.puts.getD z bp) = true) (fun (m : Nat) => a.puts.length - m)
theorem ln (a b : Fi) (ha : a.s.regs.length ≤ 9223372036854775807) (hb : a.s.mems.length ≤ 9223372036854775807) (hc : ∀ i,(a.s.mems.getD i []).length ≤ 9223372036854775807) (hd : a.pops.length ≤ 9223372036854775807) (he : a.puts.length ≤ 9223372036854775807) : CC (za a b) := by
 refine ah.vc (V := TT 3 (CS (a.fires = b.fires) (CS ((cy a.s b.s) = true) (CS ((a.pops.length : Int) = (b.pops.length : Int)) (TT 5 ((True∧(!decide (a.fires = b.fires)) = false)∧TT 4 (CC (y9 a.s b.s)∧TT 2 ((True∧(!(cy a.s b.s)) = false)∧TT 8 ((True∧(!decide ((a.pops.length : Int) = (b.pops.length : Int))) = false)∧TT 8 (CN ((a.puts.length : Int) = (b.puts.length : Int)) (TT 2 (false = (ck a b)∧True)) (TT 1 (GO (ll a b) 0 (∀ k,(ll a b).inv k → TT 5 (CD ((k : Int) < (a.pops.length : Int)) (TT 3 (IX (k : Int) a.pops.length∧TT 4 (IX (k : Int) b.pops.length∧TT 2 (CB (!((a.pops.getD k false) == (b.pops.getD k false))) (TT 2 (false = (ck a b)∧True)) (TT 1 (W6 ((k + 1 : Nat) : Int)∧TT 1 (AG (ll a b) k (k + 1)))))))) (TT 1 (GO (lm a b) 0 (∀ m,(lm a b).inv m → TT 5 (CD ((m : Int) < (a.puts.length : Int)) (TT 3 (IX (m : Int) a.puts.length∧TT 4 (IX (m : Int) b.puts.length∧TT 2 (CB (!((((a.puts.getD m bp).has) == ((b.puts.getD m bp).has)) && (((a.puts.getD m bp).v) == ((b.puts.getD m bp).v)))) (TT 2 (false = (ck a b)∧True)) (TT 1 (W6 ((m + 1 : Nat) : Int)∧TT 1 (AG (lm a b) m (m + 1)))))))) (TT 2 (true = (ck a b)∧True)))))))))))))))) (TT 5 ((True∧(!decide (a.fires = b.fires)) = false)∧TT 4 (CC (y9 a.s b.s)∧TT 2 ((True∧(!(cy a.s b.s)) = false)∧TT 8 ((True∧(!decide ((a.pops.length : Int) = (b.pops.length : Int))) = true)∧TT 10 (false = (ck a b)∧True))))))) (TT 5 ((True∧(!decide (a.fires = b.fires)) = false)∧TT 4 (CC (y9 a.s b.s)∧TT 2 ((True∧(!(cy a.s b.s)) = true)∧TT 19 (false = (ck a b)∧True)))))) (TT 5 ((True∧(!decide (a.fires = b.fires)) = true)∧TT 27 (false = (ck a b)∧True))))) (.s 1 (a.fires = b.fires) (.s 1 ((cy a.s b.s) = true) (.s 1 ((a.pops.length : Int) = (b.pops.length : Int)) (.w 1 [(5,.val (dB false)),(10,(y9 a.s b.s).O),(13,.val (dB false)),(22,.val (dB false))] <| .b 37 (.e) (.l (ll a b) 0 (fun k => .b 42 (.b 55 (.e) (.w 5 [(1,.val (i6 ((k + 1 : Nat) : Int)))] <| .e)) (.l (lm a b) 0 (fun m => .b 60 (.b 73 (.e) (.w 10 [(1,.val (i6 ((m + 1 : Nat) : Int)))] <| .e)) (.e)))))) (.w 1 [(5,.val (dB false)),(10,(y9 a.s b.s).O),(13,.val (dB false)),(22,.val (dB true))] <| .e)) (.w 1 [(5,.val (dB false)),(10,(y9 a.s b.s).O),(13,.val (dB true))] <| .e)) (.w 1 [(5,.val (dB true))] <| .e)) Try.func20 rfl rfl rfl (by kernel_rfl) ?_
 refine tt ⟨fun hs0 => ?_,fun hs0 => ?_⟩
 · refine ⟨fun hs1 => ?_,fun hs1 => ?_⟩
   · refine ⟨fun hs2 => ?_,fun hs2 => ?_⟩
     · refine tt ⟨(nF hs0),tt ⟨(iY a.s b.s ha hb hc),tt ⟨(mF hs1),tt ⟨(nF hs2),tt (cn (fun hc37 => ?_) (fun hc37 => ?_))⟩⟩⟩⟩
       · refine tt ⟨?_,oK⟩
         first | exact (eG (by simpa using hs0)).symm | exact (eK (by simpa using hs1)).symm | exact (eL (by omega)).symm | exact (eM (by omega)).symm | exact (eN (i := k) (by simpa using hc55)).symm | exact (eO (i := m) (by unfold fe; rw [Bool.not_eq_eq_eq_not,Bool.not_true] at hc73; exact hc73)).symm | exact (eP (by simpa using hs0) (by simpa using hs1) (cg (by omega) (by omega) hall) (by omega) (fun z hz => hal2 z (by omega))).symm
       · refine tt ⟨rfl,⟨by omega,fun z hz => by omega⟩,?_⟩
         intro k hinv
         obtain ⟨hk,hall⟩ := hinv
         refine tt (cd (fun hc42 => ?_) (fun hc42 => ?_))
         · refine tt ⟨ix,tt ⟨ix,tt ⟨fun hc55 => ?_,fun hc55 => ?_⟩⟩⟩
           · refine tt ⟨?_,oK⟩
             first | exact (eG (by simpa using hs0)).symm | exact (eK (by simpa using hs1)).symm | exact (eL (by omega)).symm | exact (eM (by omega)).symm | exact (eN (i := k) (by simpa using hc55)).symm | exact (eO (i := m) (by unfold fe; rw [Bool.not_eq_eq_eq_not,Bool.not_true] at hc73; exact hc73)).symm | exact (eP (by simpa using hs0) (by simpa using hs1) (cg (by omega) (by omega) hall) (by omega) (fun z hz => hal2 z (by omega))).symm
           · refine tt ⟨w6,tt ⟨(k + 1),rfl,?_,(?_ : a.pops.length - (k + 1) < a.pops.length - k)⟩⟩
             · exact ⟨by omega,ew hall (by simpa using hc55)⟩
             · omega
         · refine tt ⟨rfl,⟨by omega,fun z hz => by omega⟩,?_⟩
           intro m hinv
           obtain ⟨hm,hal2⟩ := hinv
           refine tt (cd (fun hc60 => ?_) (fun hc60 => ?_))
           · refine tt ⟨ix,tt ⟨ix,tt ⟨fun hc73 => ?_,fun hc73 => ?_⟩⟩⟩
             · refine tt ⟨?_,oK⟩
               first | exact (eG (by simpa using hs0)).symm | exact (eK (by simpa using hs1)).symm | exact (eL (by omega)).symm | exact (eM (by omega)).symm | exact (eN (i := k) (by simpa using hc55)).symm | exact (eO (i := m) (by unfold fe; rw [Bool.not_eq_eq_eq_not,Bool.not_true] at hc73; exact hc73)).symm | exact (eP (by simpa using hs0) (by simpa using hs1) (cg (by omega) (by omega) hall) (by omega) (fun z hz => hal2 z (by omega))).symm
             · refine tt ⟨w6,tt ⟨(m + 1),rfl,?_,(?_ : a.puts.length - (m + 1) < a.puts.length - m)⟩⟩
               · exact ⟨by omega,ew hal2 (by unfold fe; simpa using hc73)⟩
               · omega
           · refine tt ⟨?_,oK⟩
             first | exact (eG (by simpa using hs0)).symm | exact (eK (by simpa using hs1)).symm | exact (eL (by omega)).symm | exact (eM (by omega)).symm | exact (eN (i := k) (by simpa using hc55)).symm | exact (eO (i := m) (by unfold fe; rw [Bool.not_eq_eq_eq_not,Bool.not_true] at hc73; exact hc73)).symm | exact (eP (by simpa using hs0) (by simpa using hs1) (cg (by omega) (by omega) hall) (by omega) (fun z hz => hal2 z (by omega))).symm
     · refine tt ⟨(nF hs0),tt ⟨(iY a.s b.s ha hb hc),tt ⟨(mF hs1),tt ⟨(nT hs2),tt ⟨?_,oK⟩⟩⟩⟩⟩
       first | exact (eG (by simpa using hs0)).symm | exact (eK (by simpa using hs1)).symm | exact (eL (by omega)).symm | exact (eM (by omega)).symm | exact (eN (i := k) (by simpa using hc55)).symm | exact (eO (i := m) (by unfold fe; rw [Bool.not_eq_eq_eq_not,Bool.not_true] at hc73; exact hc73)).symm | exact (eP (by simpa using hs0) (by simpa using hs1) (cg (by omega) (by omega) hall) (by omega) (fun z hz => hal2 z (by omega))).symm
   · refine tt ⟨(nF hs0),tt ⟨(iY a.s b.s ha hb hc),tt ⟨(mT hs1),tt ⟨?_,oK⟩⟩⟩⟩
     first | exact (eG (by simpa using hs0)).symm | exact (eK (by simpa using hs1)).symm | exact (eL (by omega)).symm | exact (eM (by omega)).symm | exact (eN (i := k) (by simpa using hc55)).symm | exact (eO (i := m) (by unfold fe; rw [Bool.not_eq_eq_eq_not,Bool.not_true] at hc73; exact hc73)).symm | exact (eP (by simpa using hs0) (by simpa using hs1) (cg (by omega) (by omega) hall) (by omega) (fun z hz => hal2 z (by omega))).symm
 · refine tt ⟨(nT hs0),tt ⟨?_,oK⟩⟩
   first | exact (eG (by simpa using hs0)).symm | exact (eK (by simpa using hs1)).symm | exact (eL (by omega)).symm | exact (eM (by omega)).symm | exact (eN (i := k) (by simpa using hc55)).symm | exact (eO (i := m) (by unfold fe; rw [Bool.not_eq_eq_eq_not,Bool.not_true] at hc73; exact hc73)).symm | exact (eP (by simpa using hs0) (by simpa using hs1) (cg (by omega) (by omega) hall) (by omega) (fun z hz => hal2 z (by omega))).symm
end Go.Proofs.Ytgfbfajaaaegjaa
