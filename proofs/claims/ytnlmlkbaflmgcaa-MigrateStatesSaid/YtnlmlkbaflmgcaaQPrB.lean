/-
  Package process: states, resets, steps.
-/
import Derived.Test.YtnlmlkbaflmgcaaQVbA
import Derived.WalkKit
import Derived.Test.YtnlmlkbaflmgcaaQNeF
namespace Go.Proofs.Ytnlmlkbaflmgcaa
open Go.RowKit
set_option linter.unusedVariables false
set_option linter.unusedSimpArgs false
abbrev DG (p : Pr) (s : Ps) : List aC := [(.var 80 [(dS p.name),(dS p.clock),(dL 13 bM aO p.regs),(dL 27 cj aB p.mems),(dL 9 dJ bO p.takes),(dL 16 dD bV p.puts)]),(.var 74 [(LI s.regs),(dL 1 ac [] s.mems)])]
set_option maxRecDepth 100000
abbrev Jh (v w : Int) : Ct := ⟨73,[(i6 v),(i6 w)],false,(dB (ef v w))⟩
theorem wY (v w : Int) : CC (Jh v w) := by
 refine ap.vc (V := TT 1 (CS (v ≥ 0) (TT 2 ((True∧(decide (v ≥ 0)) = true)∧TT 2 (CC (Hw w)∧TT 4 ((decide (v ≤ (aD w))) = (ef v w)∧True)))) (TT 2 ((True∧(decide (v ≥ 0)) = false)∧TT 7 (false = (ef v w)∧True))))) (.s 1 (v ≥ 0) (.w 1 [(2,.val (dB true)),(5,(Hw w).O)] <| .e) (.w 1 [(2,.val (dB false))] <| .e)) Try.func73 rfl rfl rfl (by kernel_rfl) ?_
 refine tt ⟨fun hs0 => ?_,fun hs0 => ?_⟩
 · refine tt ⟨(vT hs0),tt ⟨(vw w),tt ⟨?_,oK⟩⟩⟩
   unfold ef; first | (rw [decide_eq_false (by omega)]; rfl) | (rw [decide_eq_true (show (0 : Int) ≤ v by omega)]; simp)
 · refine tt ⟨(vF hs0),tt ⟨?_,oK⟩⟩
   unfold ef; first | (rw [decide_eq_false (by omega)]; rfl) | (rw [decide_eq_true (show (0 : Int) ≤ v by omega)]; simp)
abbrev Kj (p : Pr) (s : Ps) : Ct := ⟨45,[(.agg [(dS p.name),(dS p.clock),(dL 13 bM aO p.regs),(dL 27 cj aB p.mems),(dL 9 dJ bO p.takes),(dL 16 dD bV p.puts)]),(.agg [(LI s.regs),(dL 1 ac [] s.mems)])],false,(dB (bw p s))⟩
abbrev lw (p : Pr) (s : Ps) : Lp (Nat) := gZ [2,3,28,29,30] 2 (fun (i : Nat) => ⟨[(2,(.ptr 0 0 0 0)),(3,(.ptr 1 0 0 0)),(28,(LI s.regs)),(29,(i6 (s.regs.length : Int))),(30,(i6 (i : Int)))],(DG p s)⟩) (fun (i : Nat) => i ≤ s.regs.length∧∀ z,z < i → ef (s.regs.getD z 0) (p.regs.getD z aO).w = true) (fun (i : Nat) => s.regs.length - i)
abbrev lx (p : Pr) (s : Ps) : Lp (Nat) := gZ [2,46,47,48] 2 (fun (j : Nat) => ⟨[(2,(.ptr 0 0 0 0)),(46,(dL 1 ac [] s.mems)),(47,(i6 (s.mems.length : Int))),(48,(i6 (j : Int)))],(DG p s)⟩) (fun (j : Nat) => j ≤ s.mems.length∧∀ z,z < j → hU p s z = true) (fun (j : Nat) => s.mems.length - j)
abbrev ly (p : Pr) (s : Ps) (j : Nat) : Lp (Nat) := gZ [2,7,46,47,48,62,63,64] 2 (fun (k : Nat) => ⟨[(2,(.ptr 0 0 0 0)),(7,(i6 (j : Int))),(46,(dL 1 ac [] s.mems)),(47,(i6 (s.mems.length : Int))),(48,(i6 (j : Int))),(62,(LI (s.mems.getD j []))),(63,(i6 (((s.mems.getD j []).length : Nat) : Int))),(64,(i6 (k : Int)))],(DG p s)⟩) (fun (k : Nat) => k ≤ (s.mems.getD j []).length∧∀ z,z < k → ef ((s.mems.getD j []).getD z 0) (p.mems.getD j aB).w = true) (fun (k : Nat) => (s.mems.getD j []).length - k)
theorem Bx (p : Pr) (s : Ps) (hp : ga p) : CC (Kj p s) := by
 have hl1 := hp.rl
 have hl2 := hp.ml
 refine ap.vc (V := TT 3 (CS ((s.regs.length : Int) = (p.regs.length : Int)) (TT 7 ((True∧(!decide ((s.regs.length : Int) = (p.regs.length : Int))) = false)∧TT 8 (CN ((s.mems.length : Int) = (p.mems.length : Int)) (TT 2 (false = (bw p s)∧True)) (TT 4 (GO (lw p s) 0 (∀ i,(lw p s).inv i → TT 1 (CD ((i : Int) < (s.regs.length : Int)) (TT 1 (IX (i : Int) s.regs.length∧TT 7 (IX (i : Int) p.regs.length∧TT 2 (CC (Jh (s.regs.getD i 0) ((p.regs.getD i aO).w))∧TT 1 (CB (!(ef (s.regs.getD i 0) ((p.regs.getD i aO).w))) (TT 2 (false = (bw p s)∧True)) (W6 ((i + 1 : Nat) : Int)∧TT 1 (AG (lw p s) i (i + 1)))))))) (TT 4 (GO (lx p s) 0 (∀ j,(lx p s).inv j → TT 1 (CD ((j : Int) < (s.mems.length : Int)) (TT 1 (IX (j : Int) s.mems.length∧TT 8 (IX (j : Int) p.mems.length∧TT 3 (CN ((((s.mems.getD j []).length : Nat) : Int) = ((p.mems.getD j aB).words)) (TT 2 (false = (bw p s)∧True)) (TT 3 (GO (ly p s j) 0 (∀ k,(ly p s j).inv k → TT 1 (CD ((k : Int) < (((s.mems.getD j []).length : Nat) : Int)) (IX (k : Int) ((s.mems.getD j []).length)∧TT 6 (IX (j : Int) p.mems.length∧TT 2 (CC (Jh ((s.mems.getD j []).getD k 0) ((p.mems.getD j aB).w))∧TT 1 (CB (!(ef ((s.mems.getD j []).getD k 0) ((p.mems.getD j aB).w))) (TT 2 (false = (bw p s)∧True)) (W6 ((k + 1 : Nat) : Int)∧TT 1 (AG (ly p s j) k (k + 1))))))) (W6 ((j + 1 : Nat) : Int)∧TT 1 (AG (lx p s) j (j + 1))))))))))) (TT 2 (true = (bw p s)∧True))))))))))))) (TT 7 ((True∧(!decide ((s.regs.length : Int) = (p.regs.length : Int))) = true)∧TT 10 (false = (bw p s)∧True))))) (.s 1 ((s.regs.length : Int) = (p.regs.length : Int)) (.w 1 [(7,.val (dB false))] <| .b 26 (.e) (.l (lw p s) 0 (fun i => .b 31 (.w 6 [(7,(Jh (s.regs.getD i 0) ((p.regs.getD i aO).w)).O)] <| .b 43 (.e) (.w 8 [(0,.val (i6 ((i + 1 : Nat) : Int)))] <| .e)) (.l (lx p s) 0 (fun j => .b 49 (.b 61 (.e) (.l (ly p s j) 0 (fun k => .b 65 (.w 17 [(7,(Jh ((s.mems.getD j []).getD k 0) ((p.mems.getD j aB).w)).O)] <| .b 76 (.e) (.w 19 [(0,.val (i6 ((k + 1 : Nat) : Int)))] <| .e)) (.w 20 [(0,.val (i6 ((j + 1 : Nat) : Int)))] <| .e)))) (.e)))))) (.w 1 [(7,.val (dB true))] <| .e)) Try.func45 rfl rfl rfl (by kernel_rfl) ?_
 refine tt ⟨fun hs0 => ?_,fun hs0 => ?_⟩
 · refine tt ⟨(nF hs0),tt (cn (fun hc26 => ?_) (fun hc26 => ?_))⟩
   · refine tt ⟨?_,oK⟩
     first | exact (gE (by omega)).symm | exact (gF (by omega)).symm | exact (gG (i := i) (by omega) (by simpa using hc43)).symm | exact (cr (i := j) (by omega) (lq (by omega))).symm | exact (cr (i := j) (by omega) (lr (j := k) (by omega) (by simpa using hc76))).symm | exact (gH (by omega) (by omega) (fun z hz => h3 z (by omega)) (fun z hz => h4 z (by omega))).symm
   · refine tt ⟨rfl,⟨by omega,fun z hz => by omega⟩,?_⟩
     intro i hinv
     obtain ⟨hi,h3⟩ := hinv
     refine tt (cd (fun hc31 => ?_) (fun hc31 => ?_))
     · refine tt ⟨ix,tt ⟨ix,tt ⟨(wY (s.regs.getD i 0) ((p.regs.getD i aO).w)),tt ⟨fun hc43 => ?_,fun hc43 => ?_⟩⟩⟩⟩
       · refine tt ⟨?_,oK⟩
         first | exact (gE (by omega)).symm | exact (gF (by omega)).symm | exact (gG (i := i) (by omega) (by simpa using hc43)).symm | exact (cr (i := j) (by omega) (lq (by omega))).symm | exact (cr (i := j) (by omega) (lr (j := k) (by omega) (by simpa using hc76))).symm | exact (gH (by omega) (by omega) (fun z hz => h3 z (by omega)) (fun z hz => h4 z (by omega))).symm
       · refine ⟨w6,tt ⟨(i + 1),rfl,?_,(?_ : s.regs.length - (i + 1) < s.regs.length - i)⟩⟩
         · exact ⟨by omega,bf h3 (by simpa using hc43)⟩
         · omega
     · refine tt ⟨rfl,⟨by omega,fun z hz => by omega⟩,?_⟩
       intro j hinv
       obtain ⟨hj,h4⟩ := hinv
       refine tt (cd (fun hc49 => ?_) (fun hc49 => ?_))
       · refine tt ⟨ix,tt ⟨ix,tt (cn (fun hc61 => ?_) (fun hc61 => ?_))⟩⟩
         · refine tt ⟨?_,oK⟩
           first | exact (gE (by omega)).symm | exact (gF (by omega)).symm | exact (gG (i := i) (by omega) (by simpa using hc43)).symm | exact (cr (i := j) (by omega) (lq (by omega))).symm | exact (cr (i := j) (by omega) (lr (j := k) (by omega) (by simpa using hc76))).symm | exact (gH (by omega) (by omega) (fun z hz => h3 z (by omega)) (fun z hz => h4 z (by omega))).symm
         · have hmw : 1 ≤ (p.mems.getD j aB).words∧(p.mems.getD j aB).words ≤ 4 := (hp.mw j (by omega)).2.1
           refine tt ⟨rfl,⟨by omega,fun z hz => by omega⟩,?_⟩
           intro k hinv
           obtain ⟨hk,h5⟩ := hinv
           refine tt (cd (fun hc65 => ?_) (fun hc65 => ?_))
           · refine ⟨ix,tt ⟨ix,tt ⟨(wY ((s.mems.getD j []).getD k 0) ((p.mems.getD j aB).w)),tt ⟨fun hc76 => ?_,fun hc76 => ?_⟩⟩⟩⟩
             · refine tt ⟨?_,oK⟩
               first | exact (gE (by omega)).symm | exact (gF (by omega)).symm | exact (gG (i := i) (by omega) (by simpa using hc43)).symm | exact (cr (i := j) (by omega) (lq (by omega))).symm | exact (cr (i := j) (by omega) (lr (j := k) (by omega) (by simpa using hc76))).symm | exact (gH (by omega) (by omega) (fun z hz => h3 z (by omega)) (fun z hz => h4 z (by omega))).symm
             · refine ⟨w6,tt ⟨(k + 1),rfl,?_,(?_ : (s.mems.getD j []).length - (k + 1) < (s.mems.getD j []).length - k)⟩⟩
               · exact ⟨by omega,bf h5 (by simpa using hc76)⟩
               · omega
           · refine ⟨w6,tt ⟨(j + 1),rfl,?_,(?_ : s.mems.length - (j + 1) < s.mems.length - j)⟩⟩
             · exact ⟨by omega,bf h4 (FK (by omega) (fun z hz => h5 z (by omega)))⟩
             · omega
       · refine tt ⟨?_,oK⟩
         first | exact (gE (by omega)).symm | exact (gF (by omega)).symm | exact (gG (i := i) (by omega) (by simpa using hc43)).symm | exact (cr (i := j) (by omega) (lq (by omega))).symm | exact (cr (i := j) (by omega) (lr (j := k) (by omega) (by simpa using hc76))).symm | exact (gH (by omega) (by omega) (fun z hz => h3 z (by omega)) (fun z hz => h4 z (by omega))).symm
 · refine tt ⟨(nT hs0),tt ⟨?_,oK⟩⟩
   first | exact (gE (by omega)).symm | exact (gF (by omega)).symm | exact (gG (i := i) (by omega) (by simpa using hc43)).symm | exact (cr (i := j) (by omega) (lq (by omega))).symm | exact (cr (i := j) (by omega) (lr (j := k) (by omega) (by simpa using hc76))).symm | exact (gH (by omega) (by omega) (fun z hz => h3 z (by omega)) (fun z hz => h4 z (by omega))).symm
end Go.Proofs.Ytnlmlkbaflmgcaa
