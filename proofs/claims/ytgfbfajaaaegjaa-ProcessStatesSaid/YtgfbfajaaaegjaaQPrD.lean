/-
  The reference of package process.
-/
import Derived.Test.YtgfbfajaaaegjaaQPrA
import Derived.Test.YtgfbfajaaaegjaaQPrT
namespace Go.Proofs.Ytgfbfajaaaegjaa
open Go.RowKit
set_option linter.unusedVariables false
set_option linter.unusedSimpArgs false
abbrev zy (p : Pr) : ar := (.var 37 [(dS p.name),(dS p.clock),(dL 13 bU aA p.regs),(dL 27 dG ai p.mems),(dL 9 bV aJ p.takes),(dL 16 bN ay p.puts)])
abbrev C8 (p : Pr) : D := (.agg [(dS p.name),(dS p.clock),(dL 13 bU aA p.regs),(dL 27 dG ai p.mems),(dL 9 bV aJ p.takes),(dL 16 bN ay p.puts)])
abbrev xj (s : Ps) : List D := [(LI s.regs),(dL 1 aL [] s.mems)]
abbrev sG : D := (.ptr 0 0 0 0)
set_option maxRecDepth 100000
abbrev C9 (v w : Int) : Ct := ⟨41,[(i6 v),(i6 w)],false,(dB (eJ v w))⟩
theorem u2 (v w : Int) (h1 : 0 ≤ w) (h2 : w ≤ 62) : CC (C9 v w) := by
 refine ak.vc (V := TT 1 (CS (v ≥ 0) (TT 2 ((True∧(decide (v ≥ 0)) = true)∧TT 2 ((True∧IntKind.u64.wrap w = w)∧(0 ≤ w∧(Int.fdiv v (2 ^ min w.toNat 64)) = (v / 2 ^ w.toNat))∧TT 4 (((v / 2 ^ w.toNat) == 0) = (eJ v w)∧True)))) (TT 2 ((True∧(decide (v ≥ 0)) = false)∧TT 8 (false = (eJ v w)∧True))))) (.s 1 (v ≥ 0) (.w 1 [(2,.val (dB true)),(5,.val (dI .u64 w)),(6,.val (i6 (v / 2 ^ w.toNat)))] <| .e) (.w 1 [(2,.val (dB false))] <| .e)) Try.func41 rfl rfl rfl (by kernel_rfl) ?_
 refine tt ⟨fun hs0 => ?_,fun hs0 => ?_⟩
 · refine tt ⟨(vT hs0),tt ⟨⟨oK,tg rfl om om⟩,⟨⟨(by omega),(wJ h1 h2)⟩,tt ⟨?_,oK⟩⟩⟩⟩
   first | exact wX (by omega) h1 h2 | (unfold eJ; rw [decide_eq_false (by omega)]; rfl)
 · refine tt ⟨(vF hs0),tt ⟨?_,oK⟩⟩
   first | exact wX (by omega) h1 h2 | (unfold eJ; rw [decide_eq_false (by omega)]; rfl)
abbrev DH (p : Pr) (s : Ps) : Ct := ⟨16,[(C8 p),(.agg (xj s))],false,(dB (ba p s))⟩
abbrev kA (p : Pr) (s : Ps) : Lp (Nat) := lm [2,3,5] 2 (fun (i : Nat) => ⟨[(2,sG),(3,(.ptr 1 0 0 0)),(5,(i6 (i : Int)))],[(zy p),(.var 29 (xj s))]⟩) (fun (i : Nat) => i ≤ s.regs.length∧∀ z,z < i → eJ (s.regs.getD z 0) (p.regs.getD z aA).w = true) (fun (i : Nat) => s.regs.length - i)
abbrev kB (p : Pr) (s : Ps) : Lp (Nat) := lm [2,3,6] 2 (fun (j : Nat) => ⟨[(2,sG),(3,(.ptr 1 0 0 0)),(6,(i6 (j : Int)))],[(zy p),(.var 29 (xj s))]⟩) (fun (j : Nat) => j ≤ s.mems.length∧∀ z,z < j → fm p s z = true) (fun (j : Nat) => s.mems.length - j)
abbrev kC (p : Pr) (s : Ps) (j : Nat) : Lp (Nat) := lm [2,3,6,7] 15 (fun (k : Nat) => ⟨[(2,sG),(3,(.ptr 1 0 0 0)),(6,(i6 (j : Int))),(7,(i6 (k : Int)))],[(zy p),(.var 29 (xj s)),.dead,.dead,.dead,.dead,.dead,.dead,.dead,.dead,.dead,.dead,.dead,.dead,.dead]⟩) (fun (k : Nat) => k ≤ (s.mems.getD j []).length∧∀ z,z < k → eJ ((s.mems.getD j []).getD z 0) (p.mems.getD j ai).w = true) (fun (k : Nat) => (s.mems.getD j []).length - k)
theorem xX (p : Pr) (s : Ps) (hp : dA p) : CC (DH p s) := by
 have hl1 := hp.rl
 have hl2 := hp.ml
 refine ak.vc (V := TT 3 (CS ((s.regs.length : Int) = (p.regs.length : Int)) (TT 7 ((True∧(!decide ((s.regs.length : Int) = (p.regs.length : Int))) = false)∧TT 8 (CN ((s.mems.length : Int) = (p.mems.length : Int)) (TT 2 (false = (ba p s)∧True)) (TT 1 (GO (kA p s) 0 (∀ i,(kA p s).inv i → TT 5 (CD ((i : Int) < (s.regs.length : Int)) (TT 3 (IX (i : Int) s.regs.length∧TT 4 (IX (i : Int) p.regs.length∧TT 2 (CC (C9 (s.regs.getD i 0) ((p.regs.getD i aA).w))∧TT 1 (CB (!(eJ (s.regs.getD i 0) ((p.regs.getD i aA).w))) (TT 2 (false = (ba p s)∧True)) (TT 1 (W6 ((i + 1 : Nat) : Int)∧TT 1 (AG (kA p s) i (i + 1))))))))) (TT 1 (GO (kB p s) 0 (∀ j,(kB p s).inv j → TT 5 (CD ((j : Int) < (s.mems.length : Int)) (TT 3 (IX (j : Int) s.mems.length∧TT 5 (IX (j : Int) p.mems.length∧TT 3 (CN ((((s.mems.getD j []).length : Nat) : Int) = ((p.mems.getD j ai).words)) (TT 2 (false = (ba p s)∧True)) (TT 1 (GO (kC p s j) 0 (∀ k,(kC p s j).inv k → TT 4 (IX (j : Int) s.mems.length∧TT 3 (CD ((k : Int) < (((s.mems.getD j []).length : Nat) : Int)) (TT 3 (IX (j : Int) s.mems.length∧TT 2 (IX (k : Int) ((s.mems.getD j []).length)∧TT 4 (IX (j : Int) p.mems.length∧TT 2 (CC (C9 ((s.mems.getD j []).getD k 0) ((p.mems.getD j ai).w))∧TT 1 (CB (!(eJ ((s.mems.getD j []).getD k 0) ((p.mems.getD j ai).w))) (TT 2 (false = (ba p s)∧True)) (TT 1 (W6 ((k + 1 : Nat) : Int)∧TT 1 (AG (kC p s j) k (k + 1)))))))))) (TT 1 (W6 ((j + 1 : Nat) : Int)∧TT 1 (AG (kB p s) j (j + 1))))))))))))) (TT 2 (true = (ba p s)∧True))))))))))))) (TT 7 ((True∧(!decide ((s.regs.length : Int) = (p.regs.length : Int))) = true)∧TT 10 (false = (ba p s)∧True))))) (.s 1 ((s.regs.length : Int) = (p.regs.length : Int)) (.w 1 [(7,.val (dB false))] <| .b 23 (.e) (.l (kA p s) 0 (fun i => .b 28 (.w 6 [(11,(C9 (s.regs.getD i 0) ((p.regs.getD i aA).w)).O)] <| .b 43 (.e) (.w 5 [(1,.val (i6 ((i + 1 : Nat) : Int)))] <| .e)) (.l (kB p s) 0 (fun j => .b 48 (.b 63 (.e) (.l (kC p s j) 0 (fun k => .b 71 (.w 16 [(14,(C9 ((s.mems.getD j []).getD k 0) ((p.mems.getD j ai).w)).O)] <| .b 89 (.e) (.w 15 [(1,.val (i6 ((k + 1 : Nat) : Int)))] <| .e)) (.w 10 [(1,.val (i6 ((j + 1 : Nat) : Int)))] <| .e)))) (.e)))))) (.w 1 [(7,.val (dB true))] <| .e)) Try.func16 rfl rfl rfl (by kernel_rfl) ?_
 refine tt ⟨fun hs0 => ?_,fun hs0 => ?_⟩
 · refine tt ⟨(nF hs0),tt (cn (fun hc23 => ?_) (fun hc23 => ?_))⟩
   · refine tt ⟨?_,oK⟩
     first | exact (cl (by omega)).symm | exact (cm (by omega)).symm | exact (co (i := i) (by omega) (by simpa using hc43)).symm | exact (a7 (i := j) (by omega) (dQ (by omega))).symm | exact (a7 (i := j) (by omega) (dR (j := k) (by omega) (by simpa using hc89))).symm | exact (cp (by omega) (by omega) (fun z hz => h3 z (by omega)) (fun z hz => h4 z (by omega))).symm
   · refine tt ⟨rfl,⟨by omega,fun z hz => by omega⟩,?_⟩
     intro i hinv
     obtain ⟨hi,h3⟩ := hinv
     refine tt (cd (fun hc28 => ?_) (fun hc28 => ?_))
     · have hrw := aK.1 (show an (p.regs.getD i aA).w = true from (hp.rw i (by omega)).1)
       refine tt ⟨ix,tt ⟨ix,tt ⟨(u2 (s.regs.getD i 0) ((p.regs.getD i aA).w) om om),tt ⟨fun hc43 => ?_,fun hc43 => ?_⟩⟩⟩⟩
       · refine tt ⟨?_,oK⟩
         first | exact (cl (by omega)).symm | exact (cm (by omega)).symm | exact (co (i := i) (by omega) (by simpa using hc43)).symm | exact (a7 (i := j) (by omega) (dQ (by omega))).symm | exact (a7 (i := j) (by omega) (dR (j := k) (by omega) (by simpa using hc89))).symm | exact (cp (by omega) (by omega) (fun z hz => h3 z (by omega)) (fun z hz => h4 z (by omega))).symm
       · refine tt ⟨w6,tt ⟨(i + 1),rfl,?_,(?_ : s.regs.length - (i + 1) < s.regs.length - i)⟩⟩
         · exact ⟨by omega,eB h3 (by simpa using hc43)⟩
         · omega
     · refine tt ⟨rfl,⟨by omega,fun z hz => by omega⟩,?_⟩
       intro j hinv
       obtain ⟨hj,h4⟩ := hinv
       refine tt (cd (fun hc48 => ?_) (fun hc48 => ?_))
       · refine tt ⟨ix,tt ⟨ix,tt (cn (fun hc63 => ?_) (fun hc63 => ?_))⟩⟩
         · refine tt ⟨?_,oK⟩
           first | exact (cl (by omega)).symm | exact (cm (by omega)).symm | exact (co (i := i) (by omega) (by simpa using hc43)).symm | exact (a7 (i := j) (by omega) (dQ (by omega))).symm | exact (a7 (i := j) (by omega) (dR (j := k) (by omega) (by simpa using hc89))).symm | exact (cp (by omega) (by omega) (fun z hz => h3 z (by omega)) (fun z hz => h4 z (by omega))).symm
         · have hmw : 1 ≤ (p.mems.getD j ai).words∧(p.mems.getD j ai).words ≤ 4 := (hp.mw j (by omega)).2.1
           refine tt ⟨rfl,⟨by omega,fun z hz => by omega⟩,?_⟩
           intro k hinv
           obtain ⟨hk,h5⟩ := hinv
           refine tt ⟨ix,tt (cd (fun hc71 => ?_) (fun hc71 => ?_))⟩
           · have hmww := aK.1 (show an (p.mems.getD j ai).w = true from (hp.mw j (by omega)).1)
             refine tt ⟨ix,tt ⟨ix,tt ⟨ix,tt ⟨(u2 ((s.mems.getD j []).getD k 0) ((p.mems.getD j ai).w) om om),tt ⟨fun hc89 => ?_,fun hc89 => ?_⟩⟩⟩⟩⟩
             · refine tt ⟨?_,oK⟩
               first | exact (cl (by omega)).symm | exact (cm (by omega)).symm | exact (co (i := i) (by omega) (by simpa using hc43)).symm | exact (a7 (i := j) (by omega) (dQ (by omega))).symm | exact (a7 (i := j) (by omega) (dR (j := k) (by omega) (by simpa using hc89))).symm | exact (cp (by omega) (by omega) (fun z hz => h3 z (by omega)) (fun z hz => h4 z (by omega))).symm
             · refine tt ⟨w6,tt ⟨(k + 1),rfl,?_,(?_ : (s.mems.getD j []).length - (k + 1) < (s.mems.getD j []).length - k)⟩⟩
               · exact ⟨by omega,eB h5 (by simpa using hc89)⟩
               · omega
           · refine tt ⟨w6,tt ⟨(j + 1),rfl,?_,(?_ : s.mems.length - (j + 1) < s.mems.length - j)⟩⟩
             · exact ⟨by omega,eB h4 (wW (by omega) (fun z hz => h5 z (by omega)))⟩
             · omega
       · refine tt ⟨?_,oK⟩
         first | exact (cl (by omega)).symm | exact (cm (by omega)).symm | exact (co (i := i) (by omega) (by simpa using hc43)).symm | exact (a7 (i := j) (by omega) (dQ (by omega))).symm | exact (a7 (i := j) (by omega) (dR (j := k) (by omega) (by simpa using hc89))).symm | exact (cp (by omega) (by omega) (fun z hz => h3 z (by omega)) (fun z hz => h4 z (by omega))).symm
 · refine tt ⟨(nT hs0),tt ⟨?_,oK⟩⟩
   first | exact (cl (by omega)).symm | exact (cm (by omega)).symm | exact (co (i := i) (by omega) (by simpa using hc43)).symm | exact (a7 (i := j) (by omega) (dQ (by omega))).symm | exact (a7 (i := j) (by omega) (dR (j := k) (by omega) (by simpa using hc89))).symm | exact (cp (by omega) (by omega) (fun z hz => h3 z (by omega)) (fun z hz => h4 z (by omega))).symm
abbrev B3 (a b : List Int) : Ct := ⟨42,[(LI a),(LI b)],false,(dB (decide (a = b)))⟩
abbrev pU (a : List Int) (b : List Int) : Lp (Nat) := lm [0,1,5] 0 (fun (k : Nat) => ⟨[(0,(LI a)),(1,(LI b)),(5,(i6 (k : Int)))],[]⟩) (fun (k : Nat) => k ≤ a.length∧∀ z,z < k → a.getD z 0 = b.getD z 0) (fun (k : Nat) => a.length - k)
theorem tL (a b : List Int) (ha : a.length ≤ 9223372036854775807) : CC (B3 a b) := by
 refine ak.vc (V := TT 6 (CN ((a.length : Int) = (b.length : Int)) (TT 2 (false = (decide (a = b))∧True)) (TT 1 (GO (pU a b) 0 (∀ k,(pU a b).inv k → TT 4 (CD ((k : Int) < (a.length : Int)) (TT 2 (IX (k : Int) a.length∧TT 3 (IX (k : Int) b.length∧TT 2 (CN ((a.getD k 0) = (b.getD k 0)) (TT 2 (false = (decide (a = b))∧True)) (TT 1 (W6 ((k + 1 : Nat) : Int)∧TT 1 (AG (pU a b) k (k + 1)))))))) (TT 2 (true = (decide (a = b))∧True)))))))) (.b 10 (.e) (.l (pU a b) 0 (fun k => .b 14 (.b 25 (.e) (.w 5 [(1,.val (i6 ((k + 1 : Nat) : Int)))] <| .e)) (.e)))) Try.func42 rfl rfl rfl (by kernel_rfl) ?_
 refine tt (cn (fun hc10 => ?_) (fun hc10 => ?_))
 · refine tt ⟨?_,oK⟩
   first | exact (decide_eq_false (fun e => by subst e; omega)).symm | exact (decide_eq_false (same_no (k := k) (by simpa using hc25))).symm | exact (decide_eq_true (bZ (by omega) (by omega) hall)).symm
 · refine tt ⟨rfl,⟨by omega,fun z hz => by omega⟩,?_⟩
   intro k hinv
   obtain ⟨hk,hall⟩ := hinv
   refine tt (cd (fun hc14 => ?_) (fun hc14 => ?_))
   · refine tt ⟨ix,tt ⟨ix,tt (cn (fun hc25 => ?_) (fun hc25 => ?_))⟩⟩
     · refine tt ⟨?_,oK⟩
       first | exact (decide_eq_false (fun e => by subst e; omega)).symm | exact (decide_eq_false (same_no (k := k) (by simpa using hc25))).symm | exact (decide_eq_true (bZ (by omega) (by omega) hall)).symm
     · refine tt ⟨w6,tt ⟨(k + 1),rfl,?_,(?_ : a.length - (k + 1) < a.length - k)⟩⟩
       · exact ⟨by omega,eB hall (by simpa using hc25)⟩
       · omega
   · refine tt ⟨?_,oK⟩
     first | exact (decide_eq_false (fun e => by subst e; omega)).symm | exact (decide_eq_false (same_no (k := k) (by simpa using hc25))).symm | exact (decide_eq_true (bZ (by omega) (by omega) hall)).symm
abbrev x9 (a b : Ps) : Ct := ⟨17,[(.agg [(LI a.regs),(dL 1 aL [] a.mems)]),(.agg [(LI b.regs),(dL 1 aL [] b.mems)])],false,(dB (cj a b))⟩
abbrev kD (a : Ps) (b : Ps) : Lp (Nat) := lm [2,3,5] 2 (fun (k : Nat) => ⟨[(2,sG),(3,(.ptr 1 0 0 0)),(5,(i6 (k : Int)))],[(.var 29 [(LI a.regs),(dL 1 aL [] a.mems)]),(.var 29 [(LI b.regs),(dL 1 aL [] b.mems)])]⟩) (fun (k : Nat) => k ≤ a.mems.length∧∀ z,z < k → a.mems.getD z [] = b.mems.getD z []) (fun (k : Nat) => a.mems.length - k)
theorem iq (a b : Ps) (ha : a.regs.length ≤ 9223372036854775807) (hb : a.mems.length ≤ 9223372036854775807) (hc : ∀ i,(a.mems.getD i []).length ≤ 9223372036854775807) : CC (x9 a b) := by
 refine ak.vc (V := TT 3 (CS (a.regs = b.regs) (TT 4 (CC (B3 a.regs b.regs)∧TT 1 ((True∧(!decide (a.regs = b.regs)) = false)∧TT 8 (CN ((a.mems.length : Int) = (b.mems.length : Int)) (TT 2 (false = (cj a b)∧True)) (TT 1 (GO (kD a b) 0 (∀ k,(kD a b).inv k → TT 5 (CD ((k : Int) < (a.mems.length : Int)) (TT 3 (IX (k : Int) a.mems.length∧TT 4 (IX (k : Int) b.mems.length∧TT 1 (CC (B3 (a.mems.getD k []) (b.mems.getD k []))∧TT 1 (CN ((a.mems.getD k []) = (b.mems.getD k [])) (TT 2 (false = (cj a b)∧True)) (TT 1 (W6 ((k + 1 : Nat) : Int)∧TT 1 (AG (kD a b) k (k + 1))))))))) (TT 2 (true = (cj a b)∧True)))))))))) (TT 4 (CC (B3 a.regs b.regs)∧TT 1 ((True∧(!decide (a.regs = b.regs)) = true)∧TT 10 (false = (cj a b)∧True)))))) (.s 1 (a.regs = b.regs) (.w 1 [(4,(B3 a.regs b.regs).O),(6,.val (dB false))] <| .b 20 (.e) (.l (kD a b) 0 (fun k => .b 25 (.w 6 [(10,(B3 (a.mems.getD k []) (b.mems.getD k [])).O)] <| .b 39 (.e) (.w 5 [(1,.val (i6 ((k + 1 : Nat) : Int)))] <| .e)) (.e)))) (.w 1 [(4,(B3 a.regs b.regs).O),(6,.val (dB true))] <| .e)) Try.func17 rfl rfl rfl (by kernel_rfl) ?_
 refine tt ⟨fun hs0 => ?_,fun hs0 => ?_⟩
 · refine tt ⟨(tL a.regs b.regs ha),tt ⟨(nF hs0),tt (cn (fun hc20 => ?_) (fun hc20 => ?_))⟩⟩
   · refine tt ⟨?_,oK⟩
     first | exact (iJ (by simpa using hs0)).symm | exact (iK (by omega)).symm | exact (iL (i := k) (by simpa using hc39)).symm | exact (iM (by simpa using hs0) (bZ (by omega) (by omega) hall)).symm
   · refine tt ⟨rfl,⟨by omega,fun z hz => by omega⟩,?_⟩
     intro k hinv
     obtain ⟨hk,hall⟩ := hinv
     refine tt (cd (fun hc25 => ?_) (fun hc25 => ?_))
     · refine tt ⟨ix,tt ⟨ix,tt ⟨(tL (a.mems.getD k []) (b.mems.getD k []) (hc k)),tt (cn (fun hc39 => ?_) (fun hc39 => ?_))⟩⟩⟩
       · refine tt ⟨?_,oK⟩
         first | exact (iJ (by simpa using hs0)).symm | exact (iK (by omega)).symm | exact (iL (i := k) (by simpa using hc39)).symm | exact (iM (by simpa using hs0) (bZ (by omega) (by omega) hall)).symm
       · refine tt ⟨w6,tt ⟨(k + 1),rfl,?_,(?_ : a.mems.length - (k + 1) < a.mems.length - k)⟩⟩
         · exact ⟨by omega,eB hall (by simpa using hc39)⟩
         · omega
     · refine tt ⟨?_,oK⟩
       first | exact (iJ (by simpa using hs0)).symm | exact (iK (by omega)).symm | exact (iL (i := k) (by simpa using hc39)).symm | exact (iM (by simpa using hs0) (bZ (by omega) (by omega) hall)).symm
 · refine tt ⟨(tL a.regs b.regs ha),tt ⟨(nT hs0),tt ⟨?_,oK⟩⟩⟩
   first | exact (iJ (by simpa using hs0)).symm | exact (iK (by omega)).symm | exact (iL (i := k) (by simpa using hc39)).symm | exact (iM (by simpa using hs0) (bZ (by omega) (by omega) hall)).symm
abbrev zE (a b : Fi) : Ct := ⟨20,[(.agg [(dB a.fires),(LI a.s.regs),(dL 1 aL [] a.s.mems),(LB a.pops),(dL 2 du be a.puts)]),(.agg [(dB b.fires),(LI b.s.regs),(dL 1 aL [] b.s.mems),(LB b.pops),(dL 2 du be b.puts)])],false,(dB (b8 a b))⟩
abbrev kE (a : Fi) (b : Fi) : Lp (Nat) := lm [2,3,5] 2 (fun (k : Nat) => ⟨[(2,sG),(3,(.ptr 1 0 0 0)),(5,(i6 (k : Int)))],[(.var 51 [(dB a.fires),(LI a.s.regs),(dL 1 aL [] a.s.mems),(LB a.pops),(dL 2 du be a.puts)]),(.var 51 [(dB b.fires),(LI b.s.regs),(dL 1 aL [] b.s.mems),(LB b.pops),(dL 2 du be b.puts)])]⟩) (fun (k : Nat) => k ≤ a.pops.length∧∀ z,z < k → a.pops.getD z false = b.pops.getD z false) (fun (k : Nat) => a.pops.length - k)
abbrev kF (a : Fi) (b : Fi) : Lp (Nat) := lm [2,3,6] 2 (fun (m : Nat) => ⟨[(2,sG),(3,(.ptr 1 0 0 0)),(6,(i6 (m : Int)))],[(.var 51 [(dB a.fires),(LI a.s.regs),(dL 1 aL [] a.s.mems),(LB a.pops),(dL 2 du be a.puts)]),(.var 51 [(dB b.fires),(LI b.s.regs),(dL 1 aL [] b.s.mems),(LB b.pops),(dL 2 du be b.puts)])]⟩) (fun (m : Nat) => m ≤ a.puts.length∧∀ z,z < m → eE (a.puts.getD z be) (b.puts.getD z be) = true) (fun (m : Nat) => a.puts.length - m)
theorem oA (a b : Fi) (ha : a.s.regs.length ≤ 9223372036854775807) (hb : a.s.mems.length ≤ 9223372036854775807) (hc : ∀ i,(a.s.mems.getD i []).length ≤ 9223372036854775807) (hd : a.pops.length ≤ 9223372036854775807) (he : a.puts.length ≤ 9223372036854775807) : CC (zE a b) := by
 refine ak.vc (V := TT 3 (CS (a.fires = b.fires) (CS ((cj a.s b.s) = true) (CS ((a.pops.length : Int) = (b.pops.length : Int)) (TT 5 ((True∧(!decide (a.fires = b.fires)) = false)∧TT 4 (CC (x9 a.s b.s)∧TT 2 ((True∧(!(cj a.s b.s)) = false)∧TT 8 ((True∧(!decide ((a.pops.length : Int) = (b.pops.length : Int))) = false)∧TT 8 (CN ((a.puts.length : Int) = (b.puts.length : Int)) (TT 2 (false = (b8 a b)∧True)) (TT 1 (GO (kE a b) 0 (∀ k,(kE a b).inv k → TT 5 (CD ((k : Int) < (a.pops.length : Int)) (TT 3 (IX (k : Int) a.pops.length∧TT 4 (IX (k : Int) b.pops.length∧TT 2 (CB (!((a.pops.getD k false) == (b.pops.getD k false))) (TT 2 (false = (b8 a b)∧True)) (TT 1 (W6 ((k + 1 : Nat) : Int)∧TT 1 (AG (kE a b) k (k + 1)))))))) (TT 1 (GO (kF a b) 0 (∀ m,(kF a b).inv m → TT 5 (CD ((m : Int) < (a.puts.length : Int)) (TT 3 (IX (m : Int) a.puts.length∧TT 4 (IX (m : Int) b.puts.length∧TT 2 (CB (!((((a.puts.getD m be).has) == ((b.puts.getD m be).has)) && (((a.puts.getD m be).v) == ((b.puts.getD m be).v)))) (TT 2 (false = (b8 a b)∧True)) (TT 1 (W6 ((m + 1 : Nat) : Int)∧TT 1 (AG (kF a b) m (m + 1)))))))) (TT 2 (true = (b8 a b)∧True)))))))))))))))) (TT 5 ((True∧(!decide (a.fires = b.fires)) = false)∧TT 4 (CC (x9 a.s b.s)∧TT 2 ((True∧(!(cj a.s b.s)) = false)∧TT 8 ((True∧(!decide ((a.pops.length : Int) = (b.pops.length : Int))) = true)∧TT 10 (false = (b8 a b)∧True))))))) (TT 5 ((True∧(!decide (a.fires = b.fires)) = false)∧TT 4 (CC (x9 a.s b.s)∧TT 2 ((True∧(!(cj a.s b.s)) = true)∧TT 19 (false = (b8 a b)∧True)))))) (TT 5 ((True∧(!decide (a.fires = b.fires)) = true)∧TT 27 (false = (b8 a b)∧True))))) (.s 1 (a.fires = b.fires) (.s 1 ((cj a.s b.s) = true) (.s 1 ((a.pops.length : Int) = (b.pops.length : Int)) (.w 1 [(5,.val (dB false)),(10,(x9 a.s b.s).O),(13,.val (dB false)),(22,.val (dB false))] <| .b 37 (.e) (.l (kE a b) 0 (fun k => .b 42 (.b 55 (.e) (.w 5 [(1,.val (i6 ((k + 1 : Nat) : Int)))] <| .e)) (.l (kF a b) 0 (fun m => .b 60 (.b 73 (.e) (.w 10 [(1,.val (i6 ((m + 1 : Nat) : Int)))] <| .e)) (.e)))))) (.w 1 [(5,.val (dB false)),(10,(x9 a.s b.s).O),(13,.val (dB false)),(22,.val (dB true))] <| .e)) (.w 1 [(5,.val (dB false)),(10,(x9 a.s b.s).O),(13,.val (dB true))] <| .e)) (.w 1 [(5,.val (dB true))] <| .e)) Try.func20 rfl rfl rfl (by kernel_rfl) ?_
 refine tt ⟨fun hs0 => ?_,fun hs0 => ?_⟩
 · refine ⟨fun hs1 => ?_,fun hs1 => ?_⟩
   · refine ⟨fun hs2 => ?_,fun hs2 => ?_⟩
     · refine tt ⟨(nF hs0),tt ⟨(iq a.s b.s ha hb hc),tt ⟨(mF hs1),tt ⟨(nF hs2),tt (cn (fun hc37 => ?_) (fun hc37 => ?_))⟩⟩⟩⟩
       · refine tt ⟨?_,oK⟩
         first | exact (dW (by simpa using hs0)).symm | exact (dX (by simpa using hs1)).symm | exact (dY (by omega)).symm | exact (dZ (by omega)).symm | exact (d4 (i := k) (by simpa using hc55)).symm | exact (d5 (i := m) (by unfold eE; rw [Bool.not_eq_eq_eq_not,Bool.not_true] at hc73; exact hc73)).symm | exact (d6 (by simpa using hs0) (by simpa using hs1) (bZ (by omega) (by omega) hall) (by omega) (fun z hz => hal2 z (by omega))).symm
       · refine tt ⟨rfl,⟨by omega,fun z hz => by omega⟩,?_⟩
         intro k hinv
         obtain ⟨hk,hall⟩ := hinv
         refine tt (cd (fun hc42 => ?_) (fun hc42 => ?_))
         · refine tt ⟨ix,tt ⟨ix,tt ⟨fun hc55 => ?_,fun hc55 => ?_⟩⟩⟩
           · refine tt ⟨?_,oK⟩
             first | exact (dW (by simpa using hs0)).symm | exact (dX (by simpa using hs1)).symm | exact (dY (by omega)).symm | exact (dZ (by omega)).symm | exact (d4 (i := k) (by simpa using hc55)).symm | exact (d5 (i := m) (by unfold eE; rw [Bool.not_eq_eq_eq_not,Bool.not_true] at hc73; exact hc73)).symm | exact (d6 (by simpa using hs0) (by simpa using hs1) (bZ (by omega) (by omega) hall) (by omega) (fun z hz => hal2 z (by omega))).symm
           · refine tt ⟨w6,tt ⟨(k + 1),rfl,?_,(?_ : a.pops.length - (k + 1) < a.pops.length - k)⟩⟩
             · exact ⟨by omega,eB hall (by simpa using hc55)⟩
             · omega
         · refine tt ⟨rfl,⟨by omega,fun z hz => by omega⟩,?_⟩
           intro m hinv
           obtain ⟨hm,hal2⟩ := hinv
           refine tt (cd (fun hc60 => ?_) (fun hc60 => ?_))
           · refine tt ⟨ix,tt ⟨ix,tt ⟨fun hc73 => ?_,fun hc73 => ?_⟩⟩⟩
             · refine tt ⟨?_,oK⟩
               first | exact (dW (by simpa using hs0)).symm | exact (dX (by simpa using hs1)).symm | exact (dY (by omega)).symm | exact (dZ (by omega)).symm | exact (d4 (i := k) (by simpa using hc55)).symm | exact (d5 (i := m) (by unfold eE; rw [Bool.not_eq_eq_eq_not,Bool.not_true] at hc73; exact hc73)).symm | exact (d6 (by simpa using hs0) (by simpa using hs1) (bZ (by omega) (by omega) hall) (by omega) (fun z hz => hal2 z (by omega))).symm
             · refine tt ⟨w6,tt ⟨(m + 1),rfl,?_,(?_ : a.puts.length - (m + 1) < a.puts.length - m)⟩⟩
               · exact ⟨by omega,eB hal2 (by unfold eE; simpa using hc73)⟩
               · omega
           · refine tt ⟨?_,oK⟩
             first | exact (dW (by simpa using hs0)).symm | exact (dX (by simpa using hs1)).symm | exact (dY (by omega)).symm | exact (dZ (by omega)).symm | exact (d4 (i := k) (by simpa using hc55)).symm | exact (d5 (i := m) (by unfold eE; rw [Bool.not_eq_eq_eq_not,Bool.not_true] at hc73; exact hc73)).symm | exact (d6 (by simpa using hs0) (by simpa using hs1) (bZ (by omega) (by omega) hall) (by omega) (fun z hz => hal2 z (by omega))).symm
     · refine tt ⟨(nF hs0),tt ⟨(iq a.s b.s ha hb hc),tt ⟨(mF hs1),tt ⟨(nT hs2),tt ⟨?_,oK⟩⟩⟩⟩⟩
       first | exact (dW (by simpa using hs0)).symm | exact (dX (by simpa using hs1)).symm | exact (dY (by omega)).symm | exact (dZ (by omega)).symm | exact (d4 (i := k) (by simpa using hc55)).symm | exact (d5 (i := m) (by unfold eE; rw [Bool.not_eq_eq_eq_not,Bool.not_true] at hc73; exact hc73)).symm | exact (d6 (by simpa using hs0) (by simpa using hs1) (bZ (by omega) (by omega) hall) (by omega) (fun z hz => hal2 z (by omega))).symm
   · refine tt ⟨(nF hs0),tt ⟨(iq a.s b.s ha hb hc),tt ⟨(mT hs1),tt ⟨?_,oK⟩⟩⟩⟩
     first | exact (dW (by simpa using hs0)).symm | exact (dX (by simpa using hs1)).symm | exact (dY (by omega)).symm | exact (dZ (by omega)).symm | exact (d4 (i := k) (by simpa using hc55)).symm | exact (d5 (i := m) (by unfold eE; rw [Bool.not_eq_eq_eq_not,Bool.not_true] at hc73; exact hc73)).symm | exact (d6 (by simpa using hs0) (by simpa using hs1) (bZ (by omega) (by omega) hall) (by omega) (fun z hz => hal2 z (by omega))).symm
 · refine tt ⟨(nT hs0),tt ⟨?_,oK⟩⟩
   first | exact (dW (by simpa using hs0)).symm | exact (dX (by simpa using hs1)).symm | exact (dY (by omega)).symm | exact (dZ (by omega)).symm | exact (d4 (i := k) (by simpa using hc55)).symm | exact (d5 (i := m) (by unfold eE; rw [Bool.not_eq_eq_eq_not,Bool.not_true] at hc73; exact hc73)).symm | exact (d6 (by simpa using hs0) (by simpa using hs1) (bZ (by omega) (by omega) hall) (by omega) (fun z hz => hal2 z (by omega))).symm
end Go.Proofs.Ytgfbfajaaaegjaa
