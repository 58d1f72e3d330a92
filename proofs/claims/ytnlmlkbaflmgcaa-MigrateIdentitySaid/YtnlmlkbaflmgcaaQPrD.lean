/-
  The reference of package process.
-/
import Derived.WalkKit
import Derived.Test.YtnlmlkbaflmgcaaQVrA
namespace Go.Proofs.Ytnlmlkbaflmgcaa
open Go.RowKit
set_option linter.unusedVariables false
set_option linter.unusedSimpArgs false
abbrev mO (p : Pr) : aE := (.var 80 [(dS p.name),(dS p.clock),(dL 13 bA aK p.regs),(dL 27 bV ax p.mems),(dL 9 dJ bO p.takes),(dL 16 dz bU p.puts)])
abbrev A3 (p : Pr) (s : Ps) (hs : List Hd) : aE := (.var 179 [(dS p.name),(dS p.clock),(dL 13 bA aK p.regs),(dL 27 bV ax p.mems),(dL 9 dJ bO p.takes),(dL 16 dz bU p.puts),(LI s.regs),(dL 1 ae [] s.mems),(LI (bL p s hs))])
abbrev A4 (p : Pr) : D := (.agg [(dS p.name),(dS p.clock),(dL 13 bA aK p.regs),(dL 27 bV ax p.mems),(dL 9 dJ bO p.takes),(dL 16 dz bU p.puts)])
abbrev EP (p : Pr) (s : Ps) (data : List Int) : aE := (.var 179 [(dS p.name),(dS p.clock),(dL 13 bA aK p.regs),(dL 27 bV ax p.mems),(dL 9 dJ bO p.takes),(dL 16 dz bU p.puts),(LI s.regs),(dL 1 ae [] s.mems),(LI data)])
abbrev ER (p : Pr) (s : Ps) (data : List Int) : D := (.agg [(dS p.name),(dS p.clock),(dL 13 bA aK p.regs),(dL 27 bV ax p.mems),(dL 9 dJ bO p.takes),(dL 16 dz bU p.puts),(LI s.regs),(dL 1 ae [] s.mems),(LI data)])
abbrev k9 (s : Ps) : List D := [(LI s.regs),(dL 1 ae [] s.mems)]
abbrev A5 : aE := (.var 167 [(dB false),.nils,.nils,.nils,.nils])
abbrev iY : D := (.ptr 0 0 0 0)
set_option maxRecDepth 100000
abbrev Kc (v w : Int) : Ct := ⟨72,[(i6 v),(i6 w)],false,(dB (eV v w))⟩
theorem xN (v w : Int) (h1 : 0 ≤ w) (h2 : w ≤ 62) : CC (Kc v w) := by
 refine aq.vc (V := TT 1 (CS (v ≥ 0) (TT 2 ((True∧(decide (v ≥ 0)) = true)∧TT 2 ((True∧IntKind.u64.wrap w = w)∧(0 ≤ w∧(Int.fdiv v (2 ^ min w.toNat 64)) = (v / 2 ^ w.toNat))∧TT 4 (((v / 2 ^ w.toNat) == 0) = (eV v w)∧True)))) (TT 2 ((True∧(decide (v ≥ 0)) = false)∧TT 8 (false = (eV v w)∧True))))) (.s 1 (v ≥ 0) (.w 1 [(2,.val (dB true)),(5,.val (dI .u64 w)),(6,.val (i6 (v / 2 ^ w.toNat)))] <| .e) (.w 1 [(2,.val (dB false))] <| .e)) Try.func72 rfl rfl rfl (by kernel_rfl) ?_
 refine tt ⟨fun hs0 => ?_,fun hs0 => ?_⟩
 · refine tt ⟨(vT hs0),tt ⟨⟨oK,Bz rfl om om⟩,⟨⟨(by omega),(zZ h1 h2)⟩,tt ⟨?_,oK⟩⟩⟩⟩
   first | exact Ao (by omega) h1 h2 | (unfold eV; rw [decide_eq_false (by omega)]; rfl)
 · refine tt ⟨(vF hs0),tt ⟨?_,oK⟩⟩
   first | exact Ao (by omega) h1 h2 | (unfold eV; rw [decide_eq_false (by omega)]; rfl)
abbrev Lm (p : Pr) (s : Ps) : Ct := ⟨42,[(A4 p),(.agg (k9 s))],false,(dB (bx p s))⟩
abbrev lU (p : Pr) (s : Ps) : Lp (Nat) := gF [2,3,5] 2 (fun (i : Nat) => ⟨[(2,iY),(3,(.ptr 1 0 0 0)),(5,(i6 (i : Int)))],[(mO p),(.var 74 (k9 s))]⟩) (fun (i : Nat) => i ≤ s.regs.length∧∀ z,z < i → eV (s.regs.getD z 0) (p.regs.getD z aK).w = true) (fun (i : Nat) => s.regs.length - i)
abbrev lV (p : Pr) (s : Ps) : Lp (Nat) := gF [2,3,6] 2 (fun (j : Nat) => ⟨[(2,iY),(3,(.ptr 1 0 0 0)),(6,(i6 (j : Int)))],[(mO p),(.var 74 (k9 s))]⟩) (fun (j : Nat) => j ≤ s.mems.length∧∀ z,z < j → hY p s z = true) (fun (j : Nat) => s.mems.length - j)
abbrev lW (p : Pr) (s : Ps) (j : Nat) : Lp (Nat) := gF [2,3,6,7] 15 (fun (k : Nat) => ⟨[(2,iY),(3,(.ptr 1 0 0 0)),(6,(i6 (j : Int))),(7,(i6 (k : Int)))],[(mO p),(.var 74 (k9 s)),.dead,.dead,.dead,.dead,.dead,.dead,.dead,.dead,.dead,.dead,.dead,.dead,.dead]⟩) (fun (k : Nat) => k ≤ (s.mems.getD j []).length∧∀ z,z < k → eV ((s.mems.getD j []).getD z 0) (p.mems.getD j ax).w = true) (fun (k : Nat) => (s.mems.getD j []).length - k)
theorem Cc (p : Pr) (s : Ps) (hp : gi p) : CC (Lm p s) := by
 have hl1 := hp.rl
 have hl2 := hp.ml
 refine aq.vc (V := TT 3 (CS ((s.regs.length : Int) = (p.regs.length : Int)) (TT 7 ((True∧(!decide ((s.regs.length : Int) = (p.regs.length : Int))) = false)∧TT 8 (CN ((s.mems.length : Int) = (p.mems.length : Int)) (TT 2 (false = (bx p s)∧True)) (TT 1 (GO (lU p s) 0 (∀ i,(lU p s).inv i → TT 5 (CD ((i : Int) < (s.regs.length : Int)) (TT 3 (IX (i : Int) s.regs.length∧TT 4 (IX (i : Int) p.regs.length∧TT 2 (CC (Kc (s.regs.getD i 0) ((p.regs.getD i aK).w))∧TT 1 (CB (!(eV (s.regs.getD i 0) ((p.regs.getD i aK).w))) (TT 2 (false = (bx p s)∧True)) (TT 1 (W6 ((i + 1 : Nat) : Int)∧TT 1 (AG (lU p s) i (i + 1))))))))) (TT 1 (GO (lV p s) 0 (∀ j,(lV p s).inv j → TT 5 (CD ((j : Int) < (s.mems.length : Int)) (TT 3 (IX (j : Int) s.mems.length∧TT 5 (IX (j : Int) p.mems.length∧TT 3 (CN ((((s.mems.getD j []).length : Nat) : Int) = ((p.mems.getD j ax).words)) (TT 2 (false = (bx p s)∧True)) (TT 1 (GO (lW p s j) 0 (∀ k,(lW p s j).inv k → TT 4 (IX (j : Int) s.mems.length∧TT 3 (CD ((k : Int) < (((s.mems.getD j []).length : Nat) : Int)) (TT 3 (IX (j : Int) s.mems.length∧TT 2 (IX (k : Int) ((s.mems.getD j []).length)∧TT 4 (IX (j : Int) p.mems.length∧TT 2 (CC (Kc ((s.mems.getD j []).getD k 0) ((p.mems.getD j ax).w))∧TT 1 (CB (!(eV ((s.mems.getD j []).getD k 0) ((p.mems.getD j ax).w))) (TT 2 (false = (bx p s)∧True)) (TT 1 (W6 ((k + 1 : Nat) : Int)∧TT 1 (AG (lW p s j) k (k + 1)))))))))) (TT 1 (W6 ((j + 1 : Nat) : Int)∧TT 1 (AG (lV p s) j (j + 1))))))))))))) (TT 2 (true = (bx p s)∧True))))))))))))) (TT 7 ((True∧(!decide ((s.regs.length : Int) = (p.regs.length : Int))) = true)∧TT 10 (false = (bx p s)∧True))))) (.s 1 ((s.regs.length : Int) = (p.regs.length : Int)) (.w 1 [(7,.val (dB false))] <| .b 23 (.e) (.l (lU p s) 0 (fun i => .b 28 (.w 6 [(11,(Kc (s.regs.getD i 0) ((p.regs.getD i aK).w)).O)] <| .b 43 (.e) (.w 5 [(1,.val (i6 ((i + 1 : Nat) : Int)))] <| .e)) (.l (lV p s) 0 (fun j => .b 48 (.b 63 (.e) (.l (lW p s j) 0 (fun k => .b 71 (.w 16 [(14,(Kc ((s.mems.getD j []).getD k 0) ((p.mems.getD j ax).w)).O)] <| .b 89 (.e) (.w 15 [(1,.val (i6 ((k + 1 : Nat) : Int)))] <| .e)) (.w 10 [(1,.val (i6 ((j + 1 : Nat) : Int)))] <| .e)))) (.e)))))) (.w 1 [(7,.val (dB true))] <| .e)) Try.func42 rfl rfl rfl (by kernel_rfl) ?_
 refine tt ⟨fun hs0 => ?_,fun hs0 => ?_⟩
 · refine tt ⟨(nF hs0),tt (cn (fun hc23 => ?_) (fun hc23 => ?_))⟩
   · refine tt ⟨?_,oK⟩
     first | exact (gI (by omega)).symm | exact (gJ (by omega)).symm | exact (gK (i := i) (by omega) (by simpa using hc43)).symm | exact (cy (i := j) (by omega) (lF (by omega))).symm | exact (cy (i := j) (by omega) (lG (j := k) (by omega) (by simpa using hc89))).symm | exact (gL (by omega) (by omega) (fun z hz => h3 z (by omega)) (fun z hz => h4 z (by omega))).symm
   · refine tt ⟨rfl,⟨by omega,fun z hz => by omega⟩,?_⟩
     intro i hinv
     obtain ⟨hi,h3⟩ := hinv
     refine tt (cd (fun hc28 => ?_) (fun hc28 => ?_))
     · have hrw := aM.1 (show aI (p.regs.getD i aK).w = true from (hp.rw i (by omega)).1)
       refine tt ⟨ix,tt ⟨ix,tt ⟨(xN (s.regs.getD i 0) ((p.regs.getD i aK).w) om om),tt ⟨fun hc43 => ?_,fun hc43 => ?_⟩⟩⟩⟩
       · refine tt ⟨?_,oK⟩
         first | exact (gI (by omega)).symm | exact (gJ (by omega)).symm | exact (gK (i := i) (by omega) (by simpa using hc43)).symm | exact (cy (i := j) (by omega) (lF (by omega))).symm | exact (cy (i := j) (by omega) (lG (j := k) (by omega) (by simpa using hc89))).symm | exact (gL (by omega) (by omega) (fun z hz => h3 z (by omega)) (fun z hz => h4 z (by omega))).symm
       · refine tt ⟨w6,tt ⟨(i + 1),rfl,?_,(?_ : s.regs.length - (i + 1) < s.regs.length - i)⟩⟩
         · exact ⟨by omega,bc h3 (by simpa using hc43)⟩
         · omega
     · refine tt ⟨rfl,⟨by omega,fun z hz => by omega⟩,?_⟩
       intro j hinv
       obtain ⟨hj,h4⟩ := hinv
       refine tt (cd (fun hc48 => ?_) (fun hc48 => ?_))
       · refine tt ⟨ix,tt ⟨ix,tt (cn (fun hc63 => ?_) (fun hc63 => ?_))⟩⟩
         · refine tt ⟨?_,oK⟩
           first | exact (gI (by omega)).symm | exact (gJ (by omega)).symm | exact (gK (i := i) (by omega) (by simpa using hc43)).symm | exact (cy (i := j) (by omega) (lF (by omega))).symm | exact (cy (i := j) (by omega) (lG (j := k) (by omega) (by simpa using hc89))).symm | exact (gL (by omega) (by omega) (fun z hz => h3 z (by omega)) (fun z hz => h4 z (by omega))).symm
         · have hmw : 1 ≤ (p.mems.getD j ax).words∧(p.mems.getD j ax).words ≤ 4 := (hp.mw j (by omega)).2.1
           refine tt ⟨rfl,⟨by omega,fun z hz => by omega⟩,?_⟩
           intro k hinv
           obtain ⟨hk,h5⟩ := hinv
           refine tt ⟨ix,tt (cd (fun hc71 => ?_) (fun hc71 => ?_))⟩
           · have hmww := aM.1 (show aI (p.mems.getD j ax).w = true from (hp.mw j (by omega)).1)
             refine tt ⟨ix,tt ⟨ix,tt ⟨ix,tt ⟨(xN ((s.mems.getD j []).getD k 0) ((p.mems.getD j ax).w) om om),tt ⟨fun hc89 => ?_,fun hc89 => ?_⟩⟩⟩⟩⟩
             · refine tt ⟨?_,oK⟩
               first | exact (gI (by omega)).symm | exact (gJ (by omega)).symm | exact (gK (i := i) (by omega) (by simpa using hc43)).symm | exact (cy (i := j) (by omega) (lF (by omega))).symm | exact (cy (i := j) (by omega) (lG (j := k) (by omega) (by simpa using hc89))).symm | exact (gL (by omega) (by omega) (fun z hz => h3 z (by omega)) (fun z hz => h4 z (by omega))).symm
             · refine tt ⟨w6,tt ⟨(k + 1),rfl,?_,(?_ : (s.mems.getD j []).length - (k + 1) < (s.mems.getD j []).length - k)⟩⟩
               · exact ⟨by omega,bc h5 (by simpa using hc89)⟩
               · omega
           · refine tt ⟨w6,tt ⟨(j + 1),rfl,?_,(?_ : s.mems.length - (j + 1) < s.mems.length - j)⟩⟩
             · exact ⟨by omega,bc h4 (FV (by omega) (fun z hz => h5 z (by omega)))⟩
             · omega
       · refine tt ⟨?_,oK⟩
         first | exact (gI (by omega)).symm | exact (gJ (by omega)).symm | exact (gK (i := i) (by omega) (by simpa using hc43)).symm | exact (cy (i := j) (by omega) (lF (by omega))).symm | exact (cy (i := j) (by omega) (lG (j := k) (by omega) (by simpa using hc89))).symm | exact (gL (by omega) (by omega) (fun z hz => h3 z (by omega)) (fun z hz => h4 z (by omega))).symm
 · refine tt ⟨(nT hs0),tt ⟨?_,oK⟩⟩
   first | exact (gI (by omega)).symm | exact (gJ (by omega)).symm | exact (gK (i := i) (by omega) (by simpa using hc43)).symm | exact (cy (i := j) (by omega) (lF (by omega))).symm | exact (cy (i := j) (by omega) (lG (j := k) (by omega) (by simpa using hc89))).symm | exact (gL (by omega) (by omega) (fun z hz => h3 z (by omega)) (fun z hz => h4 z (by omega))).symm
abbrev Ln (p : Pr) : Ct := ⟨80,[(A4 p)],true,(.agg [(LI ((bq p).regs)),(dL 1 ae [] ((bq p).mems))])⟩
abbrev lX (p : Pr) : Lp (Nat) := gF [1,2,3,4] 4 (fun (i : Nat) => ⟨[(1,iY),(2,(.ptr 1 0 0 0)),(3,(.ptr 2 0 0 0)),(4,(i6 (i : Int)))],[(mO p),(.var 74 [.nils,.nils]),(.var 74 [(.own 3),.nils]),(.arr 3 1 (aa .i64) 0 (tab (fun z => (p.regs.getD z aK).init) i))]⟩) (fun (i : Nat) => i ≤ p.regs.length) (fun (i : Nat) => p.regs.length - i)
abbrev lY (p : Pr) (i : Nat) : Lp (Nat) := gF [1,2,3,5] 5 (fun (j : Nat) => ⟨[(1,iY),(2,(.ptr 1 0 0 0)),(3,(.ptr 2 0 0 0)),(5,(i6 (j : Int)))],[(mO p),(.var 74 [.nils,.nils]),(.var 74 [(.own 3),(.own 4)]),(.arr 3 1 (aa .i64) 0 (tab (fun z => (p.regs.getD z aK).init) i)),(.arr 54 1 ae [] (tab (fun z => List.replicate (p.mems.getD z ax).words.toNat (0 : Int)) j))]⟩) (fun (j : Nat) => j ≤ p.mems.length) (fun (j : Nat) => p.mems.length - j)
theorem Cd (p : Pr) (hp : gi p) : CC (Ln p) := by
 have hl1 := hp.rl
 have hl2 := hp.ml
 refine aq.vc (V := TT 6 (GO (lX p) 0 (∀ i,(lX p).inv i → TT 5 (CD ((i : Int) < (p.regs.length : Int)) (TT 5 (IX (i : Int) p.regs.length∧TT 2 (am [[(i6 ((p.regs.getD i aK).init))]] ([(p.regs.getD i aK).init].map (aa .i64))∧((tab (fun z => (p.regs.getD z aK).init) i).length + ([(p.regs.getD i aK).init].map (aa .i64)).length ≤ 137438953472∧(tab (fun z => (p.regs.getD z aK).init) i).map (aa .i64) ++ [(p.regs.getD i aK).init].map (aa .i64) = (tab (fun z => (p.regs.getD z aK).init) (i + 1)).map (aa .i64))∧TT 3 (W6 ((i + 1 : Nat) : Int)∧TT 1 (AG (lX p) i (i + 1)))))) (TT 1 (GO (lY p i) 0 (∀ j,(lY p i).inv j → TT 5 (CD ((j : Int) < (p.mems.length : Int)) (TT 5 (IX (j : Int) p.mems.length∧TT 2 ((((0 : Int) ≤ (p.mems.getD j ax).words∧(p.mems.getD j ax).words ≤ (p.mems.getD j ax).words∧(p.mems.getD j ax).words ≤ 137438953472)∧(List.replicate (p.mems.getD j ax).words.toNat (0 : Int)).length = ((p.mems.getD j ax).words).toNat∧∀ x ∈ (List.replicate (p.mems.getD j ax).words.toNat (0 : Int)),dt [(i6 0)] ((aa .i64) x))∧am [[(LI (List.replicate (p.mems.getD j ax).words.toNat (0 : Int)))]] ([List.replicate (p.mems.getD j ax).words.toNat (0 : Int)].map ae)∧((tab (fun z => List.replicate (p.mems.getD z ax).words.toNat (0 : Int)) j).length + ([List.replicate (p.mems.getD j ax).words.toNat (0 : Int)].map ae).length ≤ 137438953472∧(tab (fun z => List.replicate (p.mems.getD z ax).words.toNat (0 : Int)) j).map ae ++ [List.replicate (p.mems.getD j ax).words.toNat (0 : Int)].map ae = (tab (fun z => List.replicate (p.mems.getD z ax).words.toNat (0 : Int)) (j + 1)).map ae)∧TT 3 (W6 ((j + 1 : Nat) : Int)∧TT 1 (AG (lY p i) j (j + 1)))))) (TT 3 ((tab (fun z => (p.regs.getD z aK).init) i).map (aa .i64) = ((bq p).regs).map (aa .i64)∧(tab (fun z => List.replicate (p.mems.getD z ax).words.toNat (0 : Int)) j).map ae = ((bq p).mems).map ae∧True)))))))))) (.g 2 2 0 3 1 (aa .i64) 0 <| .l (lX p) 0 (fun i => .b 11 (.w 5 [(8,.box 3 1 (aa .i64) 0 [(p.regs.getD i aK).init]),(9,.box 3 1 (aa .i64) 0 (tab (fun z => (p.regs.getD z aK).init) (i + 1)))] <| .w 4 [(1,.val (i6 ((i + 1 : Nat) : Int)))] <| .e) (.g 6 2 1 54 1 ae [] <| .l (lY p i) 0 (fun j => .b 29 (.w 9 [(8,.frz 3 1 (aa .i64) 0 (List.replicate (p.mems.getD j ax).words.toNat (0 : Int))),(9,.box 54 1 ae [] [List.replicate (p.mems.getD j ax).words.toNat (0 : Int)]),(10,.box 54 1 ae [] (tab (fun z => List.replicate (p.mems.getD z ax).words.toNat (0 : Int)) (j + 1)))] <| .w 8 [(1,.val (i6 ((j + 1 : Nat) : Int)))] <| .e) (.e))))) Try.func80 rfl rfl rfl (by kernel_rfl) ?_
 refine tt ⟨rfl,(by omega),?_⟩
 intro i hinv
 have hi := hinv
 refine tt (cd (fun hc11 => ?_) (fun hc11 => ?_))
 · refine tt ⟨ix,tt ⟨⟨⟨rfl,oK⟩,oK⟩,⟨(ou (f := fun z => (p.regs.getD z aK).init) (by omega)),tt ⟨w6,tt ⟨(i + 1),rfl,(?_ : (i + 1) ≤ p.regs.length),(?_ : p.regs.length - (i + 1) < p.regs.length - i)⟩⟩⟩⟩⟩
   · omega
   · omega
 · refine tt ⟨rfl,(by omega),?_⟩
   intro j hinv
   have hj := hinv
   refine tt (cd (fun hc29 => ?_) (fun hc29 => ?_))
   · have hmw : 1 ≤ (p.mems.getD j ax).words∧(p.mems.getD j ax).words ≤ 4 := (hp.mw j (by omega)).2.1
     refine tt ⟨ix,tt ⟨⟨by omega,List.length_replicate,fun x hx => by rw [List.eq_of_mem_replicate hx]; exact ⟨rfl,oK⟩⟩,⟨⟨⟨rfl,oK⟩,oK⟩,⟨(ou (f := fun z => List.replicate (p.mems.getD z ax).words.toNat (0 : Int)) (by omega)),tt ⟨w6,tt ⟨(j + 1),rfl,(?_ : (j + 1) ≤ p.mems.length),(?_ : p.mems.length - (j + 1) < p.mems.length - j)⟩⟩⟩⟩⟩⟩
     · omega
     · omega
   · refine tt ⟨(congrArg _ (?_ : (tab (fun z => (p.regs.getD z aK).init) i) = ((bq p).regs))),(congrArg _ (?_ : (tab (fun z => List.replicate (p.mems.getD z ax).words.toNat (0 : Int)) j) = ((bq p).mems))),oK⟩
     · rw [xa,show i = p.regs.length by omega]
     · rw [xa,show j = p.mems.length by omega]
abbrev ld (p : Pr) (s : Ps) (data : List Int) (n : Nat) (e : Ex) : Ct := ⟨103,[(ER p s data),(.agg [(i6 e.op),(dS e.name),(i6 e.k.n),(dS e.k.p),(i6 e.w.n),(dS e.w.p),(dL 7 (eA n) dE e.args)])],false,(.agg [(i6 ((bw p s data e).1)),(i6 ((bw p s data e).2))])⟩
abbrev qT (p : Pr) (s : Ps) (data : List Int) (n : Nat) (e : Ex) : Lp (Nat) := gF [2,3,4,7,8,9] 5 (fun (i : Nat) => ⟨[(2,iY),(3,(.ptr 1 0 0 0)),(4,(.ptr 2 0 0 0)),(7,(.own 3)),(8,(.own 4)),(9,(i6 (i : Int)))],[(EP p s data),(.var 64 [(i6 e.op),(dS e.name),(i6 e.k.n),(dS e.k.p),(i6 e.w.n),(dS e.w.p),(dL 7 (eA (n + 1)) dE e.args)]),(.var 184 [(i6 0),(i6 0)]),(.arr 3 1 (aa .i64) 0 (iE p s data (e.args.take i))),(.arr 3 1 (aa .i64) 0 (fh p s data (e.args.take i)))]⟩) (fun (i : Nat) => i ≤ e.args.length) (fun (i : Nat) => e.args.length - i)
theorem A6 (p : Pr) (s : Ps) (data : List Int) (n : Nat) (e : Ex) (c : Sc) (v : Int) (ho : tc c p s data) (ht : dp c e = some v) (hmw : ∀ i,i < p.mems.length → ((s.mems.getD i []).length : Int) = (p.mems.getD i ax).words) (ih : ∀ a ∈ e.args,CC (ld p s data n a)) : CC (ld p s data (n + 1) e) := by
 have hal := HJ ht
 refine aq.vc (V := TT 7 (CD (e.op = 16) (TT 6 (IX e.k.n s.regs.length∧TT 7 (IX e.k.n p.regs.length∧TT 5 ((((s.regs.getD e.k.n.toNat 0) = ((bw p s data e).1)∧((p.regs.getD e.k.n.toNat aK).w) = ((bw p s data e).2)∧True))∧((True∧True∧True)))))) (TT 2 (CD (e.op = 17) (TT 6 (IX e.k.n p.mems.length∧TT 6 (IX 0 e.args.length∧TT 1 (CC (ld p s data n (e.args.getD 0 dE))∧TT 8 (IX e.k.n s.mems.length∧TT 5 ((((p.mems.getD e.k.n.toNat ax).words) ≠ 0∧(Int.tmod ((bw p s data (e.args.getD 0 dE)).1) ((p.mems.getD e.k.n.toNat ax).words)) = (Int.tmod (bw p s data (e.args.getD 0 dE)).1 ((s.mems.getD e.k.n.toNat []).length : Int)))∧IX (Int.tmod (bw p s data (e.args.getD 0 dE)).1 ((s.mems.getD e.k.n.toNat []).length : Int)) ((s.mems.getD e.k.n.toNat []).length)∧TT 6 (((((s.mems.getD e.k.n.toNat []).getD ((Int.tmod (bw p s data (e.args.getD 0 dE)).1 ((s.mems.getD e.k.n.toNat []).length : Int)).toNat) 0) = ((bw p s data e).1)∧((p.mems.getD e.k.n.toNat ax).w) = ((bw p s data e).2)∧True))∧((True∧True∧True))))))))) (TT 2 (CD (e.op = 18) (TT 5 (IX e.k.n data.length∧TT 7 (IX e.k.n p.takes.length∧TT 5 ((((data.getD e.k.n.toNat 0) = ((bw p s data e).1)∧((p.takes.getD e.k.n.toNat bO).w) = ((bw p s data e).2)∧True))∧((True∧True∧True)))))) (am [] ((iE p s data (e.args.take 0)).map (aa .i64))∧am [] ((fh p s data (e.args.take 0)).map (aa .i64))∧TT 3 (GO (qT p s data n e) 0 (∀ i,(qT p s data n e).inv i → TT 5 (CD ((i : Int) < (e.args.length : Int)) (TT 4 (IX (i : Int) e.args.length∧TT 1 (CC (ld p s data n (e.args.getD i dE))∧TT 5 (am [[(i6 ((bw p s data (e.args.getD i dE)).1))]] ([(bw p s data (e.args.getD i dE)).1].map (aa .i64))∧((iE p s data (e.args.take i)).length + ([(bw p s data (e.args.getD i dE)).1].map (aa .i64)).length ≤ 137438953472∧(iE p s data (e.args.take i)).map (aa .i64) ++ [(bw p s data (e.args.getD i dE)).1].map (aa .i64) = (iE p s data (e.args.take (i + 1))).map (aa .i64))∧TT 4 (am [[(i6 ((bw p s data (e.args.getD i dE)).2))]] ([(bw p s data (e.args.getD i dE)).2].map (aa .i64))∧((fh p s data (e.args.take i)).length + ([(bw p s data (e.args.getD i dE)).2].map (aa .i64)).length ≤ 137438953472∧(fh p s data (e.args.take i)).map (aa .i64) ++ [(bw p s data (e.args.getD i dE)).2].map (aa .i64) = (fh p s data (e.args.take (i + 1))).map (aa .i64))∧TT 2 (W6 ((i + 1 : Nat) : Int)∧TT 1 (AG (qT p s data n e) i (i + 1)))))))) (TT 10 (CK (EN e.op (fh p s data (e.args.take i)) e.k.n e.w.n)∧TT 12 (am [[(i6 e.k.n)],[(i6 e.w.n)]] ([e.k.n,e.w.n].map (aa .i64))∧TT 1 (CK (IE e.op (fh p s data (e.args.take i)) (iE p s data (e.args.take i)) [e.k.n,e.w.n])∧TT 9 ((((ff e.op (fh p s data (e.args.take i)) (iE p s data (e.args.take i)) [e.k.n,e.w.n]) = ((bw p s data e).1)∧(ct e.op (fh p s data (e.args.take i)) e.k.n e.w.n) = ((bw p s data e).2)∧True))∧((True∧True∧True))))))))))))))))) (.b 15 (.e) (.b 35 (.w 6 [(5,(ld p s data n (e.args.getD 0 dE)).O)] <| .w 7 [(12,.val (i6 (Int.tmod (bw p s data (e.args.getD 0 dE)).1 ((s.mems.getD e.k.n.toNat []).length : Int))))] <| .e) (.b 69 (.e) (.w 10 [(0,.box 3 1 (aa .i64) 0 (iE p s data (e.args.take 0))),(1,.box 3 1 (aa .i64) 0 (fh p s data (e.args.take 0)))] <| .l (qT p s data n e) 0 (fun i => .b 94 (.w 14 [(6,(ld p s data n (e.args.getD i dE)).O)] <| .w 15 [(3,.box 3 1 (aa .i64) 0 [(bw p s data (e.args.getD i dE)).1]),(4,.box 3 1 (aa .i64) 0 (iE p s data (e.args.take (i + 1))))] <| .w 16 [(3,.box 3 1 (aa .i64) 0 [(bw p s data (e.args.getD i dE)).2]),(4,.box 3 1 (aa .i64) 0 (fh p s data (e.args.take (i + 1))))] <| .w 13 [(1,.val (i6 ((i + 1 : Nat) : Int)))] <| .e) (.w 17 [(10,(EN e.op (fh p s data (e.args.take i)) e.k.n e.w.n).O')] <| .w 18 [(10,.box 3 1 (aa .i64) 0 [e.k.n,e.w.n]),(12,(IE e.op (fh p s data (e.args.take i)) (iE p s data (e.args.take i)) [e.k.n,e.w.n]).O')] <| .e)))))) Try.func103 rfl rfl rfl (by kernel_rfl) ?_
 refine tt (cd (fun hc15 => ?_) (fun hc15 => ?_))
 · obtain ⟨h1,h2,h3⟩ := HK ho ht hc15
   refine tt ⟨ix,tt ⟨ix,tt ⟨⟨?_,?_,oK⟩,⟨oK,oK,oK⟩⟩⟩⟩
   all_goals (first | exact (kO hc15).1.symm | exact (kO hc15).2.symm | exact (iO hc69).1.symm | exact (iO hc69).2.symm | exact (iP hc35 hlen).1.symm | exact (iP hc35 hlen).2.symm | (rw [hie,List.take_length]; exact (p9 hc15 hc69 hc35).1.symm) | (rw [hie,List.take_length]; exact (p9 hc15 hc69 hc35).2.symm))
 · refine tt (cd (fun hc35 => ?_) (fun hc35 => ?_))
   · obtain ⟨h1,h2,h3,hlen,h4,h5,h6⟩ := FK ho ht hc35
     have hpw : (p.mems.getD e.k.n.toNat ax).words = ((s.mems.getD e.k.n.toNat []).length : Int) := (hmw _ (by omega)).symm
     have hz : (s.mems.getD e.k.n.toNat []).length ≠ 0 := by omega
     refine tt ⟨ix,tt ⟨ix,tt ⟨(ih _ (lz (by omega))),tt ⟨ix,tt ⟨⟨(by omega),(by rw [hpw])⟩,⟨ix,tt ⟨⟨?_,?_,oK⟩,⟨oK,oK,oK⟩⟩⟩⟩⟩⟩⟩⟩
     all_goals (first | exact (kO hc15).1.symm | exact (kO hc15).2.symm | exact (iO hc69).1.symm | exact (iO hc69).2.symm | exact (iP hc35 hlen).1.symm | exact (iP hc35 hlen).2.symm | (rw [hie,List.take_length]; exact (p9 hc15 hc69 hc35).1.symm) | (rw [hie,List.take_length]; exact (p9 hc15 hc69 hc35).2.symm))
   · refine tt (cd (fun hc69 => ?_) (fun hc69 => ?_))
     · obtain ⟨h1,h2,h3⟩ := FJ ho ht hc69
       refine tt ⟨ix,tt ⟨ix,tt ⟨⟨?_,?_,oK⟩,⟨oK,oK,oK⟩⟩⟩⟩
       all_goals (first | exact (kO hc15).1.symm | exact (kO hc15).2.symm | exact (iO hc69).1.symm | exact (iO hc69).2.symm | exact (iP hc35 hlen).1.symm | exact (iP hc35 hlen).2.symm | (rw [hie,List.take_length]; exact (p9 hc15 hc69 hc35).1.symm) | (rw [hie,List.take_length]; exact (p9 hc15 hc69 hc35).2.symm))
     · refine ⟨oK,⟨oK,tt ⟨rfl,(by omega),?_⟩⟩⟩
       intro i hinv
       have hi := hinv
       refine tt (cd (fun hc94 => ?_) (fun hc94 => ?_))
       · refine tt ⟨ix,tt ⟨(ih _ (lz (by omega))),tt ⟨⟨⟨rfl,oK⟩,oK⟩,⟨⟨by simp only [List.length_map,List.length_cons,List.length_nil]; rw [wX,List.length_take]; omega,by rw [BH (by omega),List.map_append]⟩,tt ⟨⟨⟨rfl,oK⟩,oK⟩,⟨⟨by simp only [List.length_map,List.length_cons,List.length_nil]; rw [wY,List.length_take]; omega,by rw [BI (by omega),List.map_append]⟩,tt ⟨w6,tt ⟨(i + 1),rfl,(?_ : (i + 1) ≤ e.args.length),(?_ : e.args.length - (i + 1) < e.args.length - i)⟩⟩⟩⟩⟩⟩⟩⟩
         · omega
         · omega
       · have hie : i = e.args.length := by omega
         have hev := DS ho ht hc15 hc35 hc69
         have hev1 : iC e.op (fh p s data (e.args.take i)) e.k.n e.w.n = true := by rw [hie,List.take_length]; exact hev.1
         have hev2 : BC (fh p s data (e.args.take i)) (iE p s data (e.args.take i)) = true := by rw [hie,List.take_length]; exact hev.2
         refine tt ⟨⟨kL _ rfl,(sL e.op (fh p s data (e.args.take i)) e.k.n e.w.n hev1)⟩,tt ⟨⟨⟨rfl,oK⟩,⟨rfl,oK⟩,oK⟩,tt ⟨⟨kL _ rfl,(zh e.op (fh p s data (e.args.take i)) (iE p s data (e.args.take i)) [e.k.n,e.w.n] hev1 (by rw [wX,wY]) hev2 rfl)⟩,tt ⟨⟨?_,?_,oK⟩,⟨oK,oK,oK⟩⟩⟩⟩⟩
         all_goals (first | exact (kO hc15).1.symm | exact (kO hc15).2.symm | exact (iO hc69).1.symm | exact (iO hc69).2.symm | exact (iP hc35 hlen).1.symm | exact (iP hc35 hlen).2.symm | (rw [hie,List.take_length]; exact (p9 hc15 hc69 hc35).1.symm) | (rw [hie,List.take_length]; exact (p9 hc15 hc69 hc35).2.symm))
theorem ju {c : Sc} {p : Pr} {s : Ps} {data : List Int} (ho : tc c p s data) (hmw : ∀ i,i < p.mems.length → ((s.mems.getD i []).length : Int) = (p.mems.getD i ax).words) : ∀ (n : Nat) (e : Ex) (v : Int),dp c e = some v → eC e ≤ n + 1 → CC (ld p s data n e)
  | 0,e,v,ht,hd => by
    have ha : e.args = [] := by
      cases hl : e.args with
      | nil => rfl
      | cons a r =>
        have := vy (e := e) (a := a) (by rw [hl]; simp)
        cases a with | mk op name k w args => rw [eC] at this; omega
    have h := A6 p s data 0 e c v ho ht hmw (fun a h => by rw [ha] at h; cases h)
    refine aq.recast ?_ h
    refine ⟨wV _ rfl,⟨rfl,rfl,rfl,rfl,rfl,rfl,?_,oK⟩,oK⟩
    show e.args.map (eA 0) = e.args.map (eA 1)
    rw [ha]; rfl
  | n + 1,e,v,ht,hd => A6 p s data n e c v ho ht hmw (fun a h => by
    obtain ⟨w,hw⟩ := HI ht h
    exact ju ho hmw n a w hw (by have := vy h; omega))
abbrev ny (p : Pr) (s : Ps) (data : List Int) (e : Ex) : Ct := ⟨101,[(ER p s data),(.agg [(i6 e.op),(dS e.name),(i6 e.k.n),(dS e.k.p),(i6 e.w.n),(dS e.w.p),(dL 7 (eA 2) dE e.args)])],false,(dB (eT p s data e))⟩
theorem sM (p : Pr) (s : Ps) (data : List Int) (e : Ex) {c : Sc} {v : Int} (ho : tc c p s data) (hmw : ∀ i,i < p.mems.length → ((s.mems.getD i []).length : Int) = (p.mems.getD i ax).words) (ht : dp c e = some v) (hd : eC e ≤ 3) : CC (ny p s data e) := by
 refine aq.vc (V := TT 5 (CC (ld p s data 2 e)∧TT 4 ((((bw p s data e).1) == 1) = (eT p s data e)∧True))) (.w 1 [(2,(ld p s data 2 e).O)] <| .e) Try.func101 rfl rfl rfl (by kernel_rfl) ?_
 refine tt ⟨(ju ho hmw 2 e _ ht hd),tt ⟨?_,oK⟩⟩
 rfl
abbrev IG (p : Pr) (s : Ps) (hs : List Hd) (rs : List Bool) : Ct := ⟨100,[(A4 p),(.agg (k9 s)),(.agg [(dL 2 gH cC hs),(LB rs)])],true,(.agg [(dS p.name),(dS p.clock),(dL 13 bA aK p.regs),(dL 27 bV ax p.mems),(dL 9 dJ bO p.takes),(dL 16 dz bU p.puts),(LI s.regs),(dL 1 ae [] s.mems),(LI (bL p s hs))])⟩
abbrev fL (p : Pr) (s : Ps) (hs : List Hd) (rs : List Bool) : Lp (Nat × List Int) := px [3,5,6,7,8,9] 20 (fun (i : Nat) (dat : List Int) => ⟨[(3,iY),(5,(.ptr 2 0 0 0)),(6,(.ptr 3 0 0 0)),(7,(.ptr 11 0 0 0)),(8,(.ptr 19 0 0 0)),(9,(i6 (i : Int)))],[(mO p),(.var 74 (k9 s)),(.var 176 [(dL 2 gH cC hs),(LB rs)]),(.var 179 [(dS e0),(dS e0),.nils,.nils,.nils,.nils,.nils,.nils,.nils]),.dead,.dead,.dead,.dead,.dead,.dead,.dead,(.var 179 [(dS p.name),(dS p.clock),(dL 13 bA aK p.regs),(dL 27 bV ax p.mems),(dL 9 dJ bO p.takes),(dL 16 dz bU p.puts),(LI s.regs),(dL 1 ae [] s.mems),(LI (mI p))]),.dead,.dead,.dead,.dead,.dead,(.arr 3 1 (aa .i64) 0 dat),.dead,(.var 179 [(dS p.name),(dS p.clock),(dL 13 bA aK p.regs),(dL 27 bV ax p.mems),(dL 9 dJ bO p.takes),(dL 16 dz bU p.puts),(LI s.regs),(dL 1 ae [] s.mems),(.own 17)])]⟩) (fun (i : Nat) (dat : List Int) => i ≤ p.takes.length∧dat = i5 (BL p s hs) (mI p) i) (fun (i : Nat) (dat : List Int) => p.takes.length - i)
theorem zk (p : Pr) (s : Ps) (hs : List Hd) (rs : List Bool) (hp : gi p) (hso : kQ p s) (hh : BO p hs) : CC (IG p s hs rs) := by
 have ht1 := hp.tl
 have ht2 := hp.pl
 have hhl := hh.l
 have hmw := hso.mn
 have ho := ia hp hso (Ju hp)
 refine aq.vc (V := TT 9 ((((0 : Int) ≤ (p.takes.length : Int)∧(p.takes.length : Int) ≤ (p.takes.length : Int)∧(p.takes.length : Int) ≤ 137438953472)∧(mI p).length = p.takes.length∧∀ x ∈ (mI p),dt [(i6 0)] ((aa .i64) x))∧TT 8 ((((0 : Int) ≤ (p.takes.length : Int)∧(p.takes.length : Int) ≤ (p.takes.length : Int)∧(p.takes.length : Int) ≤ 137438953472)∧(mI p).length = p.takes.length∧∀ x ∈ (mI p),dt [(i6 0)] ((aa .i64) x))∧TT 4 (GO (fL p s hs rs) (0,mI p) (∀ i dat,(fL p s hs rs).inv (i,dat) → TT 5 (CD ((i : Int) < (p.takes.length : Int)) (CS ((eT p s (mI p) ((p.takes.getD i bO).when)) = true) (TT 4 (IX (i : Int) p.takes.length∧TT 2 (CC (ny p s (mI p) ((p.takes.getD i bO).when))∧(True∧(eT p s (mI p) ((p.takes.getD i bO).when)) = true)∧TT 3 (IX (i : Int) hs.length∧TT 3 (CB ((hs.getD i cC).has) (TT 6 (IX (i : Int) hs.length∧TT 2 (IX (i : Int) dat.length∧(i < dat.length∧(dat.map (aa .i64)).set i (((aa .i64) (dat.getD i 0)).take 0 ++ [(.int .i64 ((hs.getD i cC).v))] ++ ((aa .i64) (dat.getD i 0)).drop (0 + 1)) = (dat.set i ((hs.getD i cC).v)).map (aa .i64))∧TT 1 (W6 ((i + 1 : Nat) : Int)∧TT 1 (AG (fL p s hs rs) (i,dat) (i + 1,dat.set i ((hs.getD i cC).v))))))) (TT 1 (W6 ((i + 1 : Nat) : Int)∧TT 1 (AG (fL p s hs rs) (i,dat) (i + 1,dat))))))))) (TT 4 (IX (i : Int) p.takes.length∧TT 2 (CC (ny p s (mI p) ((p.takes.getD i bO).when))∧(True∧(eT p s (mI p) ((p.takes.getD i bO).when)) = false)∧TT 2 (W6 ((i + 1 : Nat) : Int)∧TT 1 (AG (fL p s hs rs) (i,dat) (i + 1,dat))))))) (TT 3 (p.name = p.name∧p.clock = p.clock∧p.regs.map bA = p.regs.map bA∧p.mems.map bV = p.mems.map bV∧p.takes.map dJ = p.takes.map dJ∧p.puts.map dz = p.puts.map dz∧s.regs.map (aa .i64) = s.regs.map (aa .i64)∧s.mems.map ae = s.mems.map ae∧dat.map (aa .i64) = (bL p s hs).map (aa .i64)∧True)))))))) (.w 1 [(5,.frz 3 1 (aa .i64) 0 (mI p))] <| .w 2 [(5,.box 3 1 (aa .i64) 0 (mI p))] <| .l (fL p s hs rs) (0,mI p) (fun ⟨i,dat⟩ => .b 28 (.s 6 ((eT p s (mI p) ((p.takes.getD i bO).when)) = true) (.w 6 [(7,(ny p s (mI p) ((p.takes.getD i bO).when)).O),(8,.val (dB true))] <| .b 46 (.w 7 [(10,.box 3 1 (aa .i64) 0 (dat.set i ((hs.getD i cC).v)))] <| .w 5 [(1,.val (i6 ((i + 1 : Nat) : Int)))] <| .e) (.w 5 [(1,.val (i6 ((i + 1 : Nat) : Int)))] <| .e)) (.w 6 [(7,(ny p s (mI p) ((p.takes.getD i bO).when)).O),(8,.val (dB false))] <| .w 5 [(1,.val (i6 ((i + 1 : Nat) : Int)))] <| .e)) (.e))) Try.func100 rfl rfl rfl (by kernel_rfl) ?_
 refine tt ⟨⟨by omega,kS,fun x hx => by rw [List.eq_of_mem_replicate hx]; exact ⟨rfl,oK⟩⟩,tt ⟨⟨by omega,kS,fun x hx => by rw [List.eq_of_mem_replicate hx]; exact ⟨rfl,oK⟩⟩,tt ⟨rfl,⟨by omega,rfl⟩,?_⟩⟩⟩
 intro i dat hinv
 obtain ⟨hi,hdat⟩ := hinv
 have hdl : dat.length = p.takes.length := by rw [hdat,dC (by rw [kS]; exact hi),kS]
 refine tt (cd (fun hc28 => ?_) (fun hc28 => ?_))
 · have hwh := vL hp (show i < p.takes.length by omega)
   refine ⟨fun hs0 => ?_,fun hs0 => ?_⟩
   · refine tt ⟨ix,tt ⟨(sM p s (mI p) ((p.takes.getD i bO).when) ho hmw hwh.1 hwh.2),⟨(bT hs0),tt ⟨ix,tt ⟨fun hc46 => ?_,fun hc46 => ?_⟩⟩⟩⟩⟩
     · refine tt ⟨ix,tt ⟨ix,⟨⟨om,by simp only [List.map_set]; rfl⟩,tt ⟨w6,tt ⟨(i + 1,dat.set i ((hs.getD i cC).v)),rfl,?_,(?_ : p.takes.length - (i + 1) < p.takes.length - i)⟩⟩⟩⟩⟩
       · exact ⟨by omega,by rw [hdat]; exact ci (by rw [kS]; omega) (FY hs0 hc46)⟩
       · omega
     · refine tt ⟨w6,tt ⟨(i + 1,dat),rfl,?_,(?_ : p.takes.length - (i + 1) < p.takes.length - i)⟩⟩
       · exact ⟨by omega,by rw [hdat]; exact jk (by rw [kS]; omega) (by first | exact Aw (by assumption) | exact Ax (by rw [hc46]; simp))⟩
       · omega
   · refine tt ⟨ix,tt ⟨(sM p s (mI p) ((p.takes.getD i bO).when) ho hmw hwh.1 hwh.2),⟨(bF hs0),tt ⟨w6,tt ⟨(i + 1,dat),rfl,?_,(?_ : p.takes.length - (i + 1) < p.takes.length - i)⟩⟩⟩⟩⟩
     · exact ⟨by omega,by rw [hdat]; exact jk (by rw [kS]; omega) (by first | exact Aw (by assumption) | exact Ax (by rw [hc46]; simp))⟩
     · omega
 · refine tt ⟨rfl,rfl,rfl,rfl,rfl,rfl,rfl,rfl,(congrArg _ (?_ : dat = (bL p s hs))),oK⟩
   rw [hdat,show i = p.takes.length by omega,cM (by rw [kS]; exact Nat.le_refl _)]; rfl
abbrev IH (p : Pr) (s : Ps) (data : List Int) : Ct := ⟨102,[(ER p s data)],true,(.agg [(LI ((dA p s data).regs)),(dL 1 ae [] ((dA p s data).mems))])⟩
abbrev oL (p : Pr) (s : Ps) (data : List Int) : Lp (Nat) := gF [1,2,3,4] 4 (fun (i : Nat) => ⟨[(1,iY),(2,(.ptr 1 0 0 0)),(3,(.ptr 2 0 0 0)),(4,(i6 (i : Int)))],[(EP p s data),(.var 74 [.nils,.nils]),(.var 74 [(.own 3),.nils]),(.arr 3 1 (aa .i64) 0 (tab (fun z => (bw p s data (p.regs.getD z aK).next).1) i))]⟩) (fun (i : Nat) => i ≤ p.regs.length) (fun (i : Nat) => p.regs.length - i)
abbrev lf (p : Pr) (s : Ps) (data : List Int) (i : Nat) : Lp (Nat) := gF [1,2,3,5] 5 (fun (j : Nat) => ⟨[(1,iY),(2,(.ptr 1 0 0 0)),(3,(.ptr 2 0 0 0)),(5,(i6 (j : Int)))],[(EP p s data),(.var 74 [.nils,.nils]),(.var 74 [(.own 3),(.own 4)]),(.arr 3 1 (aa .i64) 0 (tab (fun z => (bw p s data (p.regs.getD z aK).next).1) i)),(.arr 54 1 ae [] (tab (xY p s data) j))]⟩) (fun (j : Nat) => j ≤ p.mems.length) (fun (j : Nat) => p.mems.length - j)
theorem ES (p : Pr) (s : Ps) (data : List Int) (hp : gi p) (hso : kQ p s) (hda : BN p data) : CC (IH p s data) := by
 have hl1 := hp.rl
 have hl2 := hp.ml
 have hmw := hso.mn
 have ho := ia hp hso hda
 have hsl := hso.ml
 refine aq.vc (V := TT 6 (GO (oL p s data) 0 (∀ i,(oL p s data).inv i → TT 6 (CD ((i : Int) < (p.regs.length : Int)) (TT 7 (IX (i : Int) p.regs.length∧TT 2 (CC (ld p s data 2 ((p.regs.getD i aK).next))∧TT 1 (am [[(i6 ((bw p s data ((p.regs.getD i aK).next)).1))]] ([(bw p s data ((p.regs.getD i aK).next)).1].map (aa .i64))∧((tab (fun z => (bw p s data (p.regs.getD z aK).next).1) i).length + ([(bw p s data ((p.regs.getD i aK).next)).1].map (aa .i64)).length ≤ 137438953472∧(tab (fun z => (bw p s data (p.regs.getD z aK).next).1) i).map (aa .i64) ++ [(bw p s data ((p.regs.getD i aK).next)).1].map (aa .i64) = (tab (fun z => (bw p s data (p.regs.getD z aK).next).1) (i + 1)).map (aa .i64))∧TT 3 (W6 ((i + 1 : Nat) : Int)∧TT 1 (AG (oL p s data) i (i + 1))))))) (TT 1 (GO (lf p s data i) 0 (∀ j,(lf p s data i).inv j → TT 6 (CD ((j : Int) < (p.mems.length : Int)) (TT 4 (IX (j : Int) p.mems.length∧TT 3 (am [] (([] : List Int).map (aa .i64))∧TT 4 (IX (j : Int) s.mems.length∧TT 1 ((([] : List Int).length + ((s.mems.getD j []).map (aa .i64)).length ≤ 137438953472∧([] : List Int).map (aa .i64) ++ (s.mems.getD j []).map (aa .i64) = (s.mems.getD j []).map (aa .i64))∧TT 4 (CC (ny p s data ((p.mems.getD j ax).enable))∧CB (eT p s data ((p.mems.getD j ax).enable)) (TT 4 (CC (ld p s data 2 ((p.mems.getD j ax).addr))∧TT 3 (((p.mems.getD j ax).words) ≠ 0∧TT 3 (CC (ld p s data 2 ((p.mems.getD j ax).data))∧TT 1 (IX (Int.tmod ((bw p s data ((p.mems.getD j ax).addr)).1) ((p.mems.getD j ax).words)) ((s.mems.getD j []).length)∧((Int.tmod ((bw p s data ((p.mems.getD j ax).addr)).1) ((p.mems.getD j ax).words)).toNat < (s.mems.getD j []).length∧((s.mems.getD j []).map (aa .i64)).set ((Int.tmod ((bw p s data ((p.mems.getD j ax).addr)).1) ((p.mems.getD j ax).words)).toNat) (((aa .i64) ((s.mems.getD j []).getD ((Int.tmod ((bw p s data ((p.mems.getD j ax).addr)).1) ((p.mems.getD j ax).words)).toNat) 0)).take 0 ++ [(.int .i64 ((bw p s data ((p.mems.getD j ax).data)).1))] ++ ((aa .i64) ((s.mems.getD j []).getD ((Int.tmod ((bw p s data ((p.mems.getD j ax).addr)).1) ((p.mems.getD j ax).words)).toNat) 0)).drop (0 + 1)) = ((s.mems.getD j []).set ((Int.tmod ((bw p s data ((p.mems.getD j ax).addr)).1) ((p.mems.getD j ax).words)).toNat) ((bw p s data ((p.mems.getD j ax).data)).1)).map (aa .i64))∧TT 3 (am [[(LI ((s.mems.getD j []).set ((Int.tmod ((bw p s data ((p.mems.getD j ax).addr)).1) ((p.mems.getD j ax).words)).toNat) ((bw p s data ((p.mems.getD j ax).data)).1)))]] ([(s.mems.getD j []).set ((Int.tmod ((bw p s data ((p.mems.getD j ax).addr)).1) ((p.mems.getD j ax).words)).toNat) ((bw p s data ((p.mems.getD j ax).data)).1)].map ae)∧((tab (xY p s data) j).length + ([(s.mems.getD j []).set ((Int.tmod ((bw p s data ((p.mems.getD j ax).addr)).1) ((p.mems.getD j ax).words)).toNat) ((bw p s data ((p.mems.getD j ax).data)).1)].map ae).length ≤ 137438953472∧(tab (xY p s data) j).map ae ++ [(s.mems.getD j []).set ((Int.tmod ((bw p s data ((p.mems.getD j ax).addr)).1) ((p.mems.getD j ax).words)).toNat) ((bw p s data ((p.mems.getD j ax).data)).1)].map ae = (tab (xY p s data) (j + 1)).map ae)∧TT 3 (W6 ((j + 1 : Nat) : Int)∧TT 1 (AG (lf p s data i) j (j + 1))))))))) (TT 3 (am [[(LI (s.mems.getD j []))]] ([s.mems.getD j []].map ae)∧((tab (xY p s data) j).length + ([s.mems.getD j []].map ae).length ≤ 137438953472∧(tab (xY p s data) j).map ae ++ [s.mems.getD j []].map ae = (tab (xY p s data) (j + 1)).map ae)∧TT 3 (W6 ((j + 1 : Nat) : Int)∧TT 1 (AG (lf p s data i) j (j + 1))))))))))) (TT 3 ((tab (fun z => (bw p s data (p.regs.getD z aK).next).1) i).map (aa .i64) = ((dA p s data).regs).map (aa .i64)∧(tab (xY p s data) j).map ae = ((dA p s data).mems).map ae∧True)))))))))) (.g 2 2 0 3 1 (aa .i64) 0 <| .l (oL p s data) 0 (fun i => .b 14 (.w 5 [(10,(ld p s data 2 ((p.regs.getD i aK).next)).O),(12,.box 3 1 (aa .i64) 0 [(bw p s data ((p.regs.getD i aK).next)).1]),(13,.box 3 1 (aa .i64) 0 (tab (fun z => (bw p s data (p.regs.getD z aK).next).1) (i + 1)))] <| .w 4 [(1,.val (i6 ((i + 1 : Nat) : Int)))] <| .e) (.g 6 2 1 54 1 ae [] <| .l (lf p s data i) 0 (fun j => .b 37 (.w 10 [(0,.box 3 1 (aa .i64) 0 ([] : List Int)),(7,.box 3 1 (aa .i64) 0 (s.mems.getD j []))] <| .w 11 [(3,(ny p s data ((p.mems.getD j ax).enable)).O)] <| .b 57 (.w 12 [(4,(ld p s data 2 ((p.mems.getD j ax).addr)).O),(12,(ld p s data 2 ((p.mems.getD j ax).data)).O),(15,.box 3 1 (aa .i64) 0 ((s.mems.getD j []).set ((Int.tmod ((bw p s data ((p.mems.getD j ax).addr)).1) ((p.mems.getD j ax).words)).toNat) ((bw p s data ((p.mems.getD j ax).data)).1)))] <| .f 13 6 <| .w 13 [(3,.box 54 1 ae [] [(s.mems.getD j []).set ((Int.tmod ((bw p s data ((p.mems.getD j ax).addr)).1) ((p.mems.getD j ax).words)).toNat) ((bw p s data ((p.mems.getD j ax).data)).1)]),(4,.box 54 1 ae [] (tab (xY p s data) (j + 1)))] <| .w 8 [(1,.val (i6 ((j + 1 : Nat) : Int)))] <| .e) (.f 13 6 <| .w 13 [(3,.box 54 1 ae [] [s.mems.getD j []]),(4,.box 54 1 ae [] (tab (xY p s data) (j + 1)))] <| .w 8 [(1,.val (i6 ((j + 1 : Nat) : Int)))] <| .e)) (.e))))) Try.func102 rfl rfl rfl (by kernel_rfl) ?_
 refine tt ⟨rfl,(by omega),?_⟩
 intro i hinv
 have hi := hinv
 refine tt (cd (fun hc14 => ?_) (fun hc14 => ?_))
 · have hrn := hp.rw i (by omega)
   refine tt ⟨ix,tt ⟨(ju ho hmw 2 ((p.regs.getD i aK).next) _ hrn.2.2.1 hrn.2.2.2),tt ⟨⟨⟨rfl,oK⟩,oK⟩,⟨(ou (f := fun z => (bw p s data (p.regs.getD z aK).next).1) (by omega)),tt ⟨w6,tt ⟨(i + 1),rfl,(?_ : (i + 1) ≤ p.regs.length),(?_ : p.regs.length - (i + 1) < p.regs.length - i)⟩⟩⟩⟩⟩⟩
   · omega
   · omega
 · refine tt ⟨rfl,(by omega),?_⟩
   intro j hinv
   have hj := hinv
   refine tt (cd (fun hc37 => ?_) (fun hc37 => ?_))
   · have hmz : 1 ≤ (p.mems.getD j ax).words∧(p.mems.getD j ax).words ≤ 4 := (hp.mw j (by omega)).2.1
     have hml : ((s.mems.getD j []).length : Int) = (p.mems.getD j ax).words := hso.mn j (by omega)
     have hme := (hp.mw j (by omega)).2.2.1
     have hmb := (hp.mw j (by omega)).2.2.2
     obtain ⟨va,hma⟩ := hmb.1.1
     have had : 0 ≤ Int.tmod (bw p s data (p.mems.getD j ax).addr).1 (p.mems.getD j ax).words∧Int.tmod (bw p s data (p.mems.getD j ax).addr).1 (p.mems.getD j ax).words < (s.mems.getD j []).length∧(p.mems.getD j ax).words ≠ 0 := FZ hp hso hda (show j < p.mems.length by omega)
     refine tt ⟨ix,tt ⟨oK,tt ⟨ix,tt ⟨⟨by simp only [List.length_map,List.length_nil]; omega,by simp⟩,tt ⟨(sM p s data ((p.mems.getD j ax).enable) ho hmw hme.1 hme.2),⟨fun hc57 => ?_,fun hc57 => ?_⟩⟩⟩⟩⟩⟩
     · refine tt ⟨(ju ho hmw 2 ((p.mems.getD j ax).addr) _ hma hmb.1.2),tt ⟨om,tt ⟨(ju ho hmw 2 ((p.mems.getD j ax).data) _ hmb.2.1 hmb.2.2),tt ⟨ix,⟨⟨om,by simp only [List.map_set]; rfl⟩,tt ⟨⟨⟨rfl,oK⟩,oK⟩,⟨(aV (by omega) (by first | exact DT hc57 | exact He (by rw [hc57]; simp))),tt ⟨w6,tt ⟨(j + 1),rfl,(?_ : (j + 1) ≤ p.mems.length),(?_ : p.mems.length - (j + 1) < p.mems.length - j)⟩⟩⟩⟩⟩⟩⟩⟩⟩
       · omega
       · omega
     · refine tt ⟨⟨⟨rfl,oK⟩,oK⟩,⟨(aV (by omega) (by first | exact DT hc57 | exact He (by rw [hc57]; simp))),tt ⟨w6,tt ⟨(j + 1),rfl,(?_ : (j + 1) ≤ p.mems.length),(?_ : p.mems.length - (j + 1) < p.mems.length - j)⟩⟩⟩⟩
       · omega
       · omega
   · refine tt ⟨(congrArg _ (?_ : (tab (fun z => (bw p s data (p.regs.getD z aK).next).1) i) = ((dA p s data).regs))),(congrArg _ (?_ : (tab (xY p s data) j) = ((dA p s data).mems))),oK⟩
     · rw [show i = p.regs.length by omega]; rfl
     · rw [show j = p.mems.length by omega]; rfl
abbrev Lo (p : Pr) (s : Ps) (hs : List Hd) (rs : List Bool) : Ct := ⟨98,[(A4 p),(.agg (k9 s)),(.agg [(dL 2 gH cC hs),(LB rs)])],true,(.agg [(dB ((bk p s hs rs).fires)),(LI (((bk p s hs rs).s).regs)),(dL 1 ae [] (((bk p s hs rs).s).mems)),(LB ((bk p s hs rs).pops)),(dL 2 gH cC ((bk p s hs rs).puts))])⟩
abbrev gR (p : Pr) (s : Ps) (hs : List Hd) (rs : List Bool) : Lp (Nat × Bool) := px [3,5,6,7,8,9] 16 (fun (i : Nat) (fir : Bool) => ⟨[(3,iY),(5,(.ptr 2 0 0 0)),(6,(.ptr 3 0 0 0)),(7,(.ptr 4 0 0 0)),(8,(.ptr 15 0 0 0)),(9,(i6 (i : Int)))],[(mO p),(.var 74 (k9 s)),(.var 176 [(dL 2 gH cC hs),(LB rs)]),A5,(A3 p s hs),.dead,.dead,.dead,.dead,(.arr 4 1 bK false (List.replicate p.takes.length false)),.dead,.dead,.dead,(.arr 170 2 gH cC (List.replicate p.puts.length cC)),.dead,(.var 167 [(dB fir),(LI s.regs),(dL 1 ae [] s.mems),(.own 9),(.own 13)])]⟩) (fun (i : Nat) (fir : Bool) => i ≤ p.takes.length∧fir = b4 (sa p s hs) i) (fun (i : Nat) (fir : Bool) => p.takes.length - i)
abbrev gS (p : Pr) (s : Ps) (hs : List Hd) (rs : List Bool) (fir : Bool) : Lp (Nat × Bool) := px [3,5,6,7,8,10] 16 (fun (m : Nat) (fi2 : Bool) => ⟨[(3,iY),(5,(.ptr 2 0 0 0)),(6,(.ptr 3 0 0 0)),(7,(.ptr 4 0 0 0)),(8,(.ptr 15 0 0 0)),(10,(i6 (m : Int)))],[(mO p),(.var 74 (k9 s)),(.var 176 [(dL 2 gH cC hs),(LB rs)]),A5,(A3 p s hs),.dead,.dead,.dead,.dead,(.arr 4 1 bK false (List.replicate p.takes.length false)),.dead,.dead,.dead,(.arr 170 2 gH cC (List.replicate p.puts.length cC)),.dead,(.var 167 [(dB fi2),(LI s.regs),(dL 1 ae [] s.mems),(.own 9),(.own 13)])]⟩) (fun (m : Nat) (fi2 : Bool) => m ≤ p.puts.length∧fi2 = (fir && b4 (sd p s hs rs) m)) (fun (m : Nat) (fi2 : Bool) => p.puts.length - m)
abbrev lZ (p : Pr) (s : Ps) (hs : List Hd) (rs : List Bool) (fi2 : Bool) : Lp (Nat × List Bool) := px [3,6,7,8,11] 16 (fun (q : Nat) (pop : List Bool) => ⟨[(3,iY),(6,(.ptr 3 0 0 0)),(7,(.ptr 4 0 0 0)),(8,(.ptr 15 0 0 0)),(11,(i6 (q : Int)))],[(mO p),(.var 74 (k9 s)),(.var 176 [(dL 2 gH cC hs),(LB rs)]),A5,(A3 p s hs),.dead,.dead,.dead,.dead,(.arr 4 1 bK false pop),.dead,.dead,.dead,(.arr 170 2 gH cC (List.replicate p.puts.length cC)),.dead,(.var 167 [(dB fi2),(LI ((dA p s (bL p s hs)).regs)),(dL 1 ae [] ((dA p s (bL p s hs)).mems)),(.own 9),(.own 13)])]⟩) (fun (q : Nat) (pop : List Bool) => q ≤ p.takes.length∧pop = i5 (DA p s hs) (List.replicate p.takes.length false) q) (fun (q : Nat) (pop : List Bool) => p.takes.length - q)
abbrev jv (p : Pr) (s : Ps) (hs : List Hd) (rs : List Bool) (fi2 : Bool) (pop : List Bool) : Lp (Nat × List Hd) := px [3,6,7,8,12] 16 (fun (t : Nat) (put : List Hd) => ⟨[(3,iY),(6,(.ptr 3 0 0 0)),(7,(.ptr 4 0 0 0)),(8,(.ptr 15 0 0 0)),(12,(i6 (t : Int)))],[(mO p),(.var 74 (k9 s)),(.var 176 [(dL 2 gH cC hs),(LB rs)]),A5,(A3 p s hs),.dead,.dead,.dead,.dead,(.arr 4 1 bK false pop),.dead,.dead,.dead,(.arr 170 2 gH cC put),.dead,(.var 167 [(dB fi2),(LI ((dA p s (bL p s hs)).regs)),(dL 1 ae [] ((dA p s (bL p s hs)).mems)),(.own 9),(.own 13)])]⟩) (fun (t : Nat) (put : List Hd) => t ≤ p.puts.length∧put = i5 (BM p s hs) (List.replicate p.puts.length cC) t) (fun (t : Nat) (put : List Hd) => p.puts.length - t)
theorem Ce (p : Pr) (s : Ps) (hs : List Hd) (rs : List Bool) (hp : gi p) (hso : kQ p s) (hh : BO p hs) (hrs : rs.length = p.puts.length) : CC (Lo p s hs rs) := by
 have ht1 := hp.tl
 have ht2 := hp.pl
 have hhl := hh.l
 have hmw := hso.mn
 have ho := ia hp hso (vA (s := s) (hs := hs) hp hh)
 have hda := vA (s := s) (hs := hs) hp hh
 refine aq.vc (V := TT 7 (CC (IG p s hs rs)∧TT 6 ((((0 : Int) ≤ (p.takes.length : Int)∧(p.takes.length : Int) ≤ (p.takes.length : Int)∧(p.takes.length : Int) ≤ 137438953472)∧(List.replicate p.takes.length false).length = p.takes.length∧∀ x ∈ (List.replicate p.takes.length false),dt [(dB false)] (bK x))∧TT 3 ((((0 : Int) ≤ (p.puts.length : Int)∧(p.puts.length : Int) ≤ (p.puts.length : Int)∧(p.puts.length : Int) ≤ 137438953472)∧(List.replicate p.puts.length cC).length = p.puts.length∧∀ x ∈ (List.replicate p.puts.length cC),dt [(dB false),(i6 0)] (gH x))∧TT 4 (GO (gR p s hs rs) (0,true) (∀ i fir,(gR p s hs rs).inv (i,fir) → TT 5 (CD ((i : Int) < (p.takes.length : Int)) (CS (fir = true) (CS (((hs.getD i cC).has) = true) (TT 2 ((True∧fir = true)∧TT 3 (IX (i : Int) hs.length∧TT 2 ((True∧((hs.getD i cC).has) = true)∧TT 5 (W6 ((i + 1 : Nat) : Int)∧TT 1 (AG (gR p s hs rs) (i,fir) (i + 1,true))))))) (TT 2 ((True∧fir = true)∧TT 3 (IX (i : Int) hs.length∧TT 2 ((True∧((hs.getD i cC).has) = false)∧TT 4 (IX (i : Int) p.takes.length∧TT 2 (CC (ny p s (bL p s hs) ((p.takes.getD i bO).when))∧TT 6 (W6 ((i + 1 : Nat) : Int)∧TT 1 (AG (gR p s hs rs) (i,fir) (i + 1,!(eT p s (bL p s hs) ((p.takes.getD i bO).when)))))))))))) (TT 2 ((True∧fir = false)∧TT 4 (W6 ((i + 1 : Nat) : Int)∧TT 1 (AG (gR p s hs rs) (i,fir) (i + 1,false)))))) (TT 1 (GO (gS p s hs rs fir) (0,fir) (∀ m fi2,(gS p s hs rs fir).inv (m,fi2) → TT 5 (CD ((m : Int) < (p.puts.length : Int)) (CS (fi2 = true) (CS ((rs.getD m false) = true) (TT 2 ((True∧fi2 = true)∧TT 3 (IX (m : Int) rs.length∧TT 1 ((True∧(rs.getD m false) = true)∧TT 5 (W6 ((m + 1 : Nat) : Int)∧TT 1 (AG (gS p s hs rs fir) (m,fi2) (m + 1,true))))))) (TT 2 ((True∧fi2 = true)∧TT 3 (IX (m : Int) rs.length∧TT 1 ((True∧(rs.getD m false) = false)∧TT 4 (IX (m : Int) p.puts.length∧TT 2 (CC (ny p s (bL p s hs) ((p.puts.getD m bU).when))∧TT 6 (W6 ((m + 1 : Nat) : Int)∧TT 1 (AG (gS p s hs rs fir) (m,fi2) (m + 1,!(eT p s (bL p s hs) ((p.puts.getD m bU).when)))))))))))) (TT 2 ((True∧fi2 = false)∧TT 4 (W6 ((m + 1 : Nat) : Int)∧TT 1 (AG (gS p s hs rs fir) (m,fi2) (m + 1,false)))))) (TT 3 (CB (!fi2) (TT 3 (fi2 = ((bk p s hs rs).fires)∧s.regs.map (aa .i64) = (((bk p s hs rs).s).regs).map (aa .i64)∧s.mems.map ae = (((bk p s hs rs).s).mems).map ae∧(List.replicate p.takes.length false).map bK = ((bk p s hs rs).pops).map bK∧(List.replicate p.puts.length cC).map gH = ((bk p s hs rs).puts).map gH∧True)) (TT 1 (CC (IH p s (bL p s hs))∧TT 3 (GO (lZ p s hs rs fi2) (0,List.replicate p.takes.length false) (∀ q pop,(lZ p s hs rs fi2).inv (q,pop) → TT 5 (CD ((q : Int) < (p.takes.length : Int)) (TT 7 (IX (q : Int) p.takes.length∧TT 2 (CC (ny p s (bL p s hs) ((p.takes.getD q bO).when))∧IX (q : Int) pop.length∧(q < pop.length∧(pop.map bK).set q ((bK (pop.getD q false)).take 0 ++ [(.bool (eT p s (bL p s hs) ((p.takes.getD q bO).when)))] ++ (bK (pop.getD q false)).drop (0 + 1)) = (pop.set q (eT p s (bL p s hs) ((p.takes.getD q bO).when))).map bK)∧TT 1 (W6 ((q + 1 : Nat) : Int)∧TT 1 (AG (lZ p s hs rs fi2) (q,pop) (q + 1,pop.set q (eT p s (bL p s hs) ((p.takes.getD q bO).when)))))))) (TT 1 (GO (jv p s hs rs fi2 pop) (0,List.replicate p.puts.length cC) (∀ t put,(jv p s hs rs fi2 pop).inv (t,put) → TT 5 (CD ((t : Int) < (p.puts.length : Int)) (TT 4 (IX (t : Int) p.puts.length∧TT 2 (CC (ny p s (bL p s hs) ((p.puts.getD t bU).when))∧CB (eT p s (bL p s hs) ((p.puts.getD t bU).when)) (TT 7 (IX (t : Int) p.puts.length∧TT 2 (CC (ld p s (bL p s hs) 2 ((p.puts.getD t bU).data))∧TT 2 (IX (t : Int) put.length∧(t < put.length∧(put.map gH).set t ((gH (put.getD t cC)).take 0 ++ [(.bool true),(.int .i64 ((bw p s (bL p s hs) ((p.puts.getD t bU).data)).1))] ++ (gH (put.getD t cC)).drop (0 + 2)) = (put.set t (⟨true,(bw p s (bL p s hs) ((p.puts.getD t bU).data)).1⟩ : Hd)).map gH)∧TT 1 (W6 ((t + 1 : Nat) : Int)∧TT 1 (AG (jv p s hs rs fi2 pop) (t,put) (t + 1,put.set t (⟨true,(bw p s (bL p s hs) ((p.puts.getD t bU).data)).1⟩ : Hd)))))))) (TT 1 (W6 ((t + 1 : Nat) : Int)∧TT 1 (AG (jv p s hs rs fi2 pop) (t,put) (t + 1,put))))))) (TT 3 (fi2 = ((bk p s hs rs).fires)∧((dA p s (bL p s hs)).regs).map (aa .i64) = (((bk p s hs rs).s).regs).map (aa .i64)∧((dA p s (bL p s hs)).mems).map ae = (((bk p s hs rs).s).mems).map ae∧pop.map bK = ((bk p s hs rs).pops).map bK∧put.map gH = ((bk p s hs rs).puts).map gH∧True)))))))))))))))))))))))) (.w 1 [(3,(IG p s hs rs).O)] <| .w 2 [(4,.box 4 1 bK false (List.replicate p.takes.length false)),(8,.box 170 2 gH cC (List.replicate p.puts.length cC))] <| .l (gR p s hs rs) (0,true) (fun ⟨i,fir⟩ => .b 31 (.s 6 (fir = true) (.s 6 (((hs.getD i cC).has) = true) (.w 6 [(2,.val (dB true)),(9,.val (dB true))] <| .w 5 [(1,.val (i6 ((i + 1 : Nat) : Int)))] <| .e) (.w 6 [(2,.val (dB true)),(9,.val (dB false)),(17,(ny p s (bL p s hs) ((p.takes.getD i bO).when)).O)] <| .w 5 [(1,.val (i6 ((i + 1 : Nat) : Int)))] <| .e)) (.w 6 [(2,.val (dB false))] <| .w 5 [(1,.val (i6 ((i + 1 : Nat) : Int)))] <| .e)) (.l (gS p s hs rs fir) (0,fir) (fun ⟨m,fi2⟩ => .b 60 (.s 10 (fi2 = true) (.s 10 ((rs.getD m false) = true) (.w 10 [(2,.val (dB true)),(8,.val (dB true))] <| .w 9 [(1,.val (i6 ((m + 1 : Nat) : Int)))] <| .e) (.w 10 [(2,.val (dB true)),(8,.val (dB false)),(16,(ny p s (bL p s hs) ((p.puts.getD m bU).when)).O)] <| .w 9 [(1,.val (i6 ((m + 1 : Nat) : Int)))] <| .e)) (.w 10 [(2,.val (dB false))] <| .w 9 [(1,.val (i6 ((m + 1 : Nat) : Int)))] <| .e)) (.b 86 (.e) (.w 13 [(1,(IH p s (bL p s hs)).O)] <| .l (lZ p s hs rs fi2) (0,List.replicate p.takes.length false) (fun ⟨q,pop⟩ => .b 95 (.w 17 [(10,(ny p s (bL p s hs) ((p.takes.getD q bO).when)).O),(12,.box 4 1 bK false (pop.set q (eT p s (bL p s hs) ((p.takes.getD q bO).when))))] <| .w 16 [(1,.val (i6 ((q + 1 : Nat) : Int)))] <| .e) (.l (jv p s hs rs fi2 pop) (0,List.replicate p.puts.length cC) (fun ⟨t,put⟩ => .b 114 (.w 21 [(7,(ny p s (bL p s hs) ((p.puts.getD t bU).when)).O)] <| .b 124 (.w 22 [(10,(ld p s (bL p s hs) 2 ((p.puts.getD t bU).data)).O),(14,.box 170 2 gH cC (put.set t (⟨true,(bw p s (bL p s hs) ((p.puts.getD t bU).data)).1⟩ : Hd)))] <| .w 20 [(1,.val (i6 ((t + 1 : Nat) : Int)))] <| .e) (.w 20 [(1,.val (i6 ((t + 1 : Nat) : Int)))] <| .e)) (.e)))))))))) Try.func98 rfl rfl rfl (by kernel_rfl) ?_
 refine tt ⟨(zk p s hs rs hp hso hh),tt ⟨⟨by omega,List.length_replicate,fun x hx => by rw [List.eq_of_mem_replicate hx]; exact ⟨rfl,oK⟩⟩,tt ⟨⟨by omega,List.length_replicate,fun x hx => by rw [List.eq_of_mem_replicate hx]; exact ⟨rfl,rfl,oK⟩⟩,tt ⟨rfl,⟨by omega,rfl⟩,?_⟩⟩⟩⟩
 intro i fir hinv
 obtain ⟨hi,hfir⟩ := hinv
 refine tt (cd (fun hc31 => ?_) (fun hc31 => ?_))
 · have hwh := vL hp (show i < p.takes.length by omega)
   refine ⟨fun hs0 => ?_,fun hs0 => ?_⟩
   · refine ⟨fun hs1 => ?_,fun hs1 => ?_⟩
     · refine tt ⟨(bT hs0),tt ⟨ix,tt ⟨(bT hs1),tt ⟨w6,tt ⟨(i + 1,true),rfl,?_,(?_ : p.takes.length - (i + 1) < p.takes.length - i)⟩⟩⟩⟩⟩
       · exact ⟨by omega,yN hfir _ (by unfold sa; clear hfir; cases fir <;> simp_all)⟩
       · omega
     · refine tt ⟨(bT hs0),tt ⟨ix,tt ⟨(bF hs1),tt ⟨ix,tt ⟨(sM p s (bL p s hs) ((p.takes.getD i bO).when) ho hmw hwh.1 hwh.2),tt ⟨w6,tt ⟨(i + 1,!(eT p s (bL p s hs) ((p.takes.getD i bO).when))),rfl,?_,(?_ : p.takes.length - (i + 1) < p.takes.length - i)⟩⟩⟩⟩⟩⟩⟩
       · exact ⟨by omega,yN hfir _ (by unfold sa; clear hfir; cases fir <;> simp_all)⟩
       · omega
   · refine tt ⟨(bF hs0),tt ⟨w6,tt ⟨(i + 1,false),rfl,?_,(?_ : p.takes.length - (i + 1) < p.takes.length - i)⟩⟩⟩
     · exact ⟨by omega,yN hfir _ (by unfold sa; clear hfir; cases fir <;> simp_all)⟩
     · omega
 · refine tt ⟨rfl,⟨by omega,by simp [b4]⟩,?_⟩
   intro m fi2 hinv
   obtain ⟨hm,hfi2⟩ := hinv
   refine tt (cd (fun hc60 => ?_) (fun hc60 => ?_))
   · have hpw := hp.pw m (by omega)
     refine ⟨fun hs2 => ?_,fun hs2 => ?_⟩
     · refine ⟨fun hs3 => ?_,fun hs3 => ?_⟩
       · refine tt ⟨(bT hs2),tt ⟨ix,tt ⟨(bT hs3),tt ⟨w6,tt ⟨(m + 1,true),rfl,?_,(?_ : p.puts.length - (m + 1) < p.puts.length - m)⟩⟩⟩⟩⟩
         · exact ⟨by omega,yO hfi2 _ (by unfold sd; clear hfi2 hfir; cases fi2 <;> simp_all)⟩
         · omega
       · refine tt ⟨(bT hs2),tt ⟨ix,tt ⟨(bF hs3),tt ⟨ix,tt ⟨(sM p s (bL p s hs) ((p.puts.getD m bU).when) ho hmw hpw.2.1.1 hpw.2.1.2),tt ⟨w6,tt ⟨(m + 1,!(eT p s (bL p s hs) ((p.puts.getD m bU).when))),rfl,?_,(?_ : p.puts.length - (m + 1) < p.puts.length - m)⟩⟩⟩⟩⟩⟩⟩
         · exact ⟨by omega,yO hfi2 _ (by unfold sd; clear hfi2 hfir; cases fi2 <;> simp_all)⟩
         · omega
     · refine tt ⟨(bF hs2),tt ⟨w6,tt ⟨(m + 1,false),rfl,?_,(?_ : p.puts.length - (m + 1) < p.puts.length - m)⟩⟩⟩
       · exact ⟨by omega,yO hfi2 _ (by unfold sd; clear hfi2 hfir; cases fi2 <;> simp_all)⟩
       · omega
   · have hie : i = p.takes.length := by omega
     have hme : m = p.puts.length := by omega
     refine tt ⟨fun hc86 => ?_,fun hc86 => ?_⟩
     · refine tt ⟨?_,(congrArg _ (?_ : s.regs = (((bk p s hs rs).s).regs))),(congrArg _ (?_ : s.mems = (((bk p s hs rs).s).mems))),(congrArg _ (?_ : (List.replicate p.takes.length false) = ((bk p s hs rs).pops))),(congrArg _ (?_ : (List.replicate p.puts.length cC) = ((bk p s hs rs).puts))),oK⟩
       all_goals
         rw [FT (by rw [uo (rs := rs) (a := fir) (b := fi2) (by rw [hfir,hie]) (by rw [hfi2,hme])]; simpa using hc86)]
         first | done | rfl | simpa using hc86
     · refine tt ⟨(ES p s (bL p s hs) hp hso hda),tt ⟨rfl,⟨by omega,rfl⟩,?_⟩⟩
       intro q pop hinv
       obtain ⟨hq,hpop⟩ := hinv
       have hpl : pop.length = p.takes.length := by rw [hpop,dC (by rw [List.length_replicate]; exact hq),List.length_replicate]
       refine tt (cd (fun hc95 => ?_) (fun hc95 => ?_))
       · have hwh := vL hp (show q < p.takes.length by omega)
         refine tt ⟨ix,tt ⟨(sM p s (bL p s hs) ((p.takes.getD q bO).when) ho hmw hwh.1 hwh.2),⟨ix,⟨⟨om,by simp only [List.map_set]; rfl⟩,tt ⟨w6,tt ⟨(q + 1,pop.set q (eT p s (bL p s hs) ((p.takes.getD q bO).when))),rfl,?_,(?_ : p.takes.length - (q + 1) < p.takes.length - q)⟩⟩⟩⟩⟩⟩
         · exact ⟨by omega,by rw [hpop]; exact ci (by rw [List.length_replicate]; omega) rfl⟩
         · omega
       · refine tt ⟨rfl,⟨by omega,rfl⟩,?_⟩
         intro t put hinv
         obtain ⟨ht,hput⟩ := hinv
         have hql : put.length = p.puts.length := by rw [hput,dC (by rw [List.length_replicate]; exact ht),List.length_replicate]
         refine tt (cd (fun hc114 => ?_) (fun hc114 => ?_))
         · have hpw := hp.pw t (by omega)
           refine tt ⟨ix,tt ⟨(sM p s (bL p s hs) ((p.puts.getD t bU).when) ho hmw hpw.2.1.1 hpw.2.1.2),⟨fun hc124 => ?_,fun hc124 => ?_⟩⟩⟩
           · refine tt ⟨ix,tt ⟨(ju ho hmw 2 ((p.puts.getD t bU).data) _ hpw.2.2.1 hpw.2.2.2),tt ⟨ix,⟨⟨om,by simp only [List.map_set]; rfl⟩,tt ⟨w6,tt ⟨(t + 1,put.set t (⟨true,(bw p s (bL p s hs) ((p.puts.getD t bU).data)).1⟩ : Hd)),rfl,?_,(?_ : p.puts.length - (t + 1) < p.puts.length - t)⟩⟩⟩⟩⟩⟩
             · exact ⟨by omega,by rw [hput]; exact ci (by rw [List.length_replicate]; omega) (if_pos hc124)⟩
             · omega
           · refine tt ⟨w6,tt ⟨(t + 1,put),rfl,?_,(?_ : p.puts.length - (t + 1) < p.puts.length - t)⟩⟩
             · exact ⟨by omega,by rw [hput]; exact jk (d := cC) (by rw [List.length_replicate]; omega) ((if_neg (by rw [hc124]; simp)).trans cY.symm)⟩
             · omega
         · refine tt ⟨?_,(congrArg _ (?_ : ((dA p s (bL p s hs)).regs) = (((bk p s hs rs).s).regs))),(congrArg _ (?_ : ((dA p s (bL p s hs)).mems) = (((bk p s hs rs).s).mems))),(congrArg _ (?_ : pop = ((bk p s hs rs).pops))),(congrArg _ (?_ : put = ((bk p s hs rs).puts))),oK⟩
           all_goals
             rw [FU (by rw [uo (rs := rs) (a := fir) (b := fi2) (by rw [hfir,hie]) (by rw [hfi2,hme])]; simpa using hc86)]
             first | done | (simpa using hc86) | (rw [hpop,show q = p.takes.length by omega,cM (by rw [List.length_replicate]; exact Nat.le_refl _)]) | (rw [hput,show t = p.puts.length by omega,cM (by rw [List.length_replicate]; exact Nat.le_refl _)])
abbrev GM (a b : List Int) : Ct := ⟨20,[(LI a),(LI b)],false,(dB (decide (a = b)))⟩
abbrev qU (a : List Int) (b : List Int) : Lp (Nat) := gF [0,1,5] 0 (fun (k : Nat) => ⟨[(0,(LI a)),(1,(LI b)),(5,(i6 (k : Int)))],[]⟩) (fun (k : Nat) => k ≤ a.length∧∀ z,z < k → a.getD z 0 = b.getD z 0) (fun (k : Nat) => a.length - k)
theorem qV (a b : List Int) (ha : a.length ≤ 9223372036854775807) : CC (GM a b) := by
 refine aq.vc (V := TT 6 (CN ((a.length : Int) = (b.length : Int)) (TT 2 (false = (decide (a = b))∧True)) (TT 1 (GO (qU a b) 0 (∀ k,(qU a b).inv k → TT 4 (CD ((k : Int) < (a.length : Int)) (TT 2 (IX (k : Int) a.length∧TT 3 (IX (k : Int) b.length∧TT 2 (CN ((a.getD k 0) = (b.getD k 0)) (TT 2 (false = (decide (a = b))∧True)) (TT 1 (W6 ((k + 1 : Nat) : Int)∧TT 1 (AG (qU a b) k (k + 1)))))))) (TT 2 (true = (decide (a = b))∧True)))))))) (.b 10 (.e) (.l (qU a b) 0 (fun k => .b 14 (.b 25 (.e) (.w 5 [(1,.val (i6 ((k + 1 : Nat) : Int)))] <| .e)) (.e)))) Try.func20 rfl rfl rfl (by kernel_rfl) ?_
 refine tt (cn (fun hc10 => ?_) (fun hc10 => ?_))
 · refine tt ⟨?_,oK⟩
   first | exact (decide_eq_false (fun e => by subst e; omega)).symm | exact (decide_eq_false (same_no (k := k) (by simpa using hc25))).symm | exact (decide_eq_true (db (by omega) (by omega) hall)).symm
 · refine tt ⟨rfl,⟨by omega,fun z hz => by omega⟩,?_⟩
   intro k hinv
   obtain ⟨hk,hall⟩ := hinv
   refine tt (cd (fun hc14 => ?_) (fun hc14 => ?_))
   · refine tt ⟨ix,tt ⟨ix,tt (cn (fun hc25 => ?_) (fun hc25 => ?_))⟩⟩
     · refine tt ⟨?_,oK⟩
       first | exact (decide_eq_false (fun e => by subst e; omega)).symm | exact (decide_eq_false (same_no (k := k) (by simpa using hc25))).symm | exact (decide_eq_true (db (by omega) (by omega) hall)).symm
     · refine tt ⟨w6,tt ⟨(k + 1),rfl,?_,(?_ : a.length - (k + 1) < a.length - k)⟩⟩
       · exact ⟨by omega,bc hall (by simpa using hc25)⟩
       · omega
   · refine tt ⟨?_,oK⟩
     first | exact (decide_eq_false (fun e => by subst e; omega)).symm | exact (decide_eq_false (same_no (k := k) (by simpa using hc25))).symm | exact (decide_eq_true (db (by omega) (by omega) hall)).symm
abbrev Lq (a b : Ps) : Ct := ⟨44,[(.agg [(LI a.regs),(dL 1 ae [] a.mems)]),(.agg [(LI b.regs),(dL 1 ae [] b.mems)])],false,(dB (de a b))⟩
abbrev l5 (a : Ps) (b : Ps) : Lp (Nat) := gF [2,3,5] 2 (fun (k : Nat) => ⟨[(2,iY),(3,(.ptr 1 0 0 0)),(5,(i6 (k : Int)))],[(.var 74 [(LI a.regs),(dL 1 ae [] a.mems)]),(.var 74 [(LI b.regs),(dL 1 ae [] b.mems)])]⟩) (fun (k : Nat) => k ≤ a.mems.length∧∀ z,z < k → a.mems.getD z [] = b.mems.getD z []) (fun (k : Nat) => a.mems.length - k)
theorem Cf (a b : Ps) (ha : a.regs.length ≤ 9223372036854775807) (hb : a.mems.length ≤ 9223372036854775807) (hc : ∀ i,(a.mems.getD i []).length ≤ 9223372036854775807) : CC (Lq a b) := by
 refine aq.vc (V := TT 3 (CS (a.regs = b.regs) (TT 4 (CC (GM a.regs b.regs)∧TT 1 ((True∧(!decide (a.regs = b.regs)) = false)∧TT 8 (CN ((a.mems.length : Int) = (b.mems.length : Int)) (TT 2 (false = (de a b)∧True)) (TT 1 (GO (l5 a b) 0 (∀ k,(l5 a b).inv k → TT 5 (CD ((k : Int) < (a.mems.length : Int)) (TT 3 (IX (k : Int) a.mems.length∧TT 4 (IX (k : Int) b.mems.length∧TT 1 (CC (GM (a.mems.getD k []) (b.mems.getD k []))∧TT 1 (CN ((a.mems.getD k []) = (b.mems.getD k [])) (TT 2 (false = (de a b)∧True)) (TT 1 (W6 ((k + 1 : Nat) : Int)∧TT 1 (AG (l5 a b) k (k + 1))))))))) (TT 2 (true = (de a b)∧True)))))))))) (TT 4 (CC (GM a.regs b.regs)∧TT 1 ((True∧(!decide (a.regs = b.regs)) = true)∧TT 10 (false = (de a b)∧True)))))) (.s 1 (a.regs = b.regs) (.w 1 [(4,(GM a.regs b.regs).O),(6,.val (dB false))] <| .b 20 (.e) (.l (l5 a b) 0 (fun k => .b 25 (.w 6 [(10,(GM (a.mems.getD k []) (b.mems.getD k [])).O)] <| .b 39 (.e) (.w 5 [(1,.val (i6 ((k + 1 : Nat) : Int)))] <| .e)) (.e)))) (.w 1 [(4,(GM a.regs b.regs).O),(6,.val (dB true))] <| .e)) Try.func44 rfl rfl rfl (by kernel_rfl) ?_
 refine tt ⟨fun hs0 => ?_,fun hs0 => ?_⟩
 · refine tt ⟨(qV a.regs b.regs ha),tt ⟨(nF hs0),tt (cn (fun hc20 => ?_) (fun hc20 => ?_))⟩⟩
   · refine tt ⟨?_,oK⟩
     first | exact (jN (by simpa using hs0)).symm | exact (jO (by omega)).symm | exact (jP (i := k) (by simpa using hc39)).symm | exact (jQ (by simpa using hs0) (db (by omega) (by omega) hall)).symm
   · refine tt ⟨rfl,⟨by omega,fun z hz => by omega⟩,?_⟩
     intro k hinv
     obtain ⟨hk,hall⟩ := hinv
     refine tt (cd (fun hc25 => ?_) (fun hc25 => ?_))
     · refine tt ⟨ix,tt ⟨ix,tt ⟨(qV (a.mems.getD k []) (b.mems.getD k []) (hc k)),tt (cn (fun hc39 => ?_) (fun hc39 => ?_))⟩⟩⟩
       · refine tt ⟨?_,oK⟩
         first | exact (jN (by simpa using hs0)).symm | exact (jO (by omega)).symm | exact (jP (i := k) (by simpa using hc39)).symm | exact (jQ (by simpa using hs0) (db (by omega) (by omega) hall)).symm
       · refine tt ⟨w6,tt ⟨(k + 1),rfl,?_,(?_ : a.mems.length - (k + 1) < a.mems.length - k)⟩⟩
         · exact ⟨by omega,bc hall (by simpa using hc39)⟩
         · omega
     · refine tt ⟨?_,oK⟩
       first | exact (jN (by simpa using hs0)).symm | exact (jO (by omega)).symm | exact (jP (i := k) (by simpa using hc39)).symm | exact (jQ (by simpa using hs0) (db (by omega) (by omega) hall)).symm
 · refine tt ⟨(qV a.regs b.regs ha),tt ⟨(nT hs0),tt ⟨?_,oK⟩⟩⟩
   first | exact (jN (by simpa using hs0)).symm | exact (jO (by omega)).symm | exact (jP (i := k) (by simpa using hc39)).symm | exact (jQ (by simpa using hs0) (db (by omega) (by omega) hall)).symm
end Go.Proofs.Ytnlmlkbaflmgcaa
