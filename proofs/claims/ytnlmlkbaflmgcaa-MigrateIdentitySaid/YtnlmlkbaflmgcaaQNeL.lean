/-
  The reference of package network: states, words, single processes.
-/
import Derived.Test.YtnlmlkbaflmgcaaQPrD
namespace Go.Proofs.Ytnlmlkbaflmgcaa
open Go.RowKit
set_option linter.unusedVariables false
set_option linter.unusedSimpArgs false
abbrev mP (c : Ci) : List D := [(dL 6 bm ac c.procs),(dL 5 bI aB c.chans)]
abbrev oM (s : Ns) : List D := [(dL 2 bl aW s.procs),(dL 1 ae [] s.chans)]
set_option maxRecDepth 100000
abbrev GN (l : List Int) (w : Int) : Ct := ⟨43,[(LI l),(i6 w)],false,(dB (fk l w))⟩
abbrev j8 (l : List Int) (w : Int) : Lp (Nat) := gF [0,1,5] 0 (fun (i : Nat) => ⟨[(0,(LI l)),(1,(i6 w)),(5,(i6 (i : Int)))],[]⟩) (fun (i : Nat) => i ≤ l.length∧∀ z,z < i → eV (l.getD z 0) w = true) (fun (i : Nat) => l.length - i)
theorem j9 (l : List Int) (w : Int) (hl : l.length ≤ 9223372036854775807) : CC (GN l w) := by
 refine aq.vc (V := TT 2 (GO (j8 l w) 0 (∀ i,(j8 l w).inv i → TT 4 (CD ((i : Int) < (l.length : Int)) (CS ((l.getD i 0) < 0) (TT 2 (IX (i : Int) l.length∧TT 2 ((True∧(decide ((l.getD i 0) < 0)) = true)∧TT 3 (false = (fk l w)∧True)))) (TT 2 (IX (i : Int) l.length∧TT 2 ((True∧(decide ((l.getD i 0) < 0)) = false)∧TT 2 (IX (i : Int) l.length∧TT 2 (CC (zg w)∧TT 2 (CD ((l.getD i 0) > (aC w)) (TT 2 (false = (fk l w)∧True)) (TT 1 (W6 ((i + 1 : Nat) : Int)∧TT 1 (AG (j8 l w) i (i + 1))))))))))) (TT 2 (true = (fk l w)∧True)))))) (.l (j8 l w) 0 (fun i => .b 9 (.s 4 ((l.getD i 0) < 0) (.w 4 [(5,.val (dB true))] <| .e) (.w 4 [(5,.val (dB false)),(11,(zg w).O)] <| .b 25 (.e) (.w 3 [(1,.val (i6 ((i + 1 : Nat) : Int)))] <| .e))) (.e))) Try.func43 rfl rfl rfl (by kernel_rfl) ?_
 refine tt ⟨rfl,⟨by omega,fun z hz => by omega⟩,?_⟩
 intro i hinv
 obtain ⟨hi,h3⟩ := hinv
 refine tt (cd (fun hc9 => ?_) (fun hc9 => ?_))
 · refine ⟨fun hs0 => ?_,fun hs0 => ?_⟩
   · refine tt ⟨ix,tt ⟨(vT hs0),tt ⟨?_,oK⟩⟩⟩
     first | exact (lP (i := i) (by omega) (vS hs0)).symm | exact (lP (i := i) (by omega) (vU hc25)).symm | exact (sA (fun z hz => h3 z (by omega))).symm
   · refine tt ⟨ix,tt ⟨(vF hs0),tt ⟨ix,tt ⟨(iw w),tt (cd (fun hc25 => ?_) (fun hc25 => ?_))⟩⟩⟩⟩
     · refine tt ⟨?_,oK⟩
       first | exact (lP (i := i) (by omega) (vS hs0)).symm | exact (lP (i := i) (by omega) (vU hc25)).symm | exact (sA (fun z hz => h3 z (by omega))).symm
     · refine tt ⟨w6,tt ⟨(i + 1),rfl,?_,(?_ : l.length - (i + 1) < l.length - i)⟩⟩
       · exact ⟨by omega,bc h3 (Gd hs0 hc25)⟩
       · omega
 · refine tt ⟨?_,oK⟩
   first | exact (lP (i := i) (by omega) (vS hs0)).symm | exact (lP (i := i) (by omega) (vU hc25)).symm | exact (sA (fun z hz => h3 z (by omega))).symm
abbrev Lr (c : Ci) (s : Ns) : Ct := ⟨19,[(.agg (mP c)),(.agg (oM s))],false,(dB (bX c s))⟩
abbrev ka (c : Ci) (s : Ns) : Lp (Nat) := gF [2,3,5] 2 (fun (i : Nat) => ⟨[(2,(.ptr 0 0 0 0)),(3,(.ptr 1 0 0 0)),(5,(i6 (i : Int)))],[(.var 31 (mP c)),(.var 35 (oM s))]⟩) (fun (i : Nat) => i ≤ c.procs.length∧∀ z,z < i → bx (aZ c z) (xZ s z) = true) (fun (i : Nat) => c.procs.length - i)
abbrev fM (c : Ci) (s : Ns) : Lp (Nat) := gF [2,3,6] 2 (fun (n : Nat) => ⟨[(2,(.ptr 0 0 0 0)),(3,(.ptr 1 0 0 0)),(6,(i6 (n : Int)))],[(.var 31 (mP c)),(.var 35 (oM s))]⟩) (fun (n : Nat) => n ≤ c.chans.length∧∀ z,z < n → ib c s z = true) (fun (n : Nat) => c.chans.length - n)
theorem zl (c : Ci) (s : Ns) (hc : bS c) (hsm : qq s 9223372036854775807) : CC (Lr c s) := by
 have hnl := hc.nl
 have hcl := hc.cl
 refine aq.vc (V := TT 3 (CS ((s.procs.length : Int) = (c.procs.length : Int)) (TT 7 ((True∧(!decide ((s.procs.length : Int) = (c.procs.length : Int))) = false)∧TT 8 (CN ((s.chans.length : Int) = (c.chans.length : Int)) (TT 2 (false = (bX c s)∧True)) (TT 1 (GO (ka c s) 0 (∀ i,(ka c s).inv i → TT 5 (CD ((i : Int) < (c.procs.length : Int)) (TT 3 (IX (i : Int) c.procs.length∧TT 4 (IX (i : Int) s.procs.length∧TT 1 (CC (Lm (c.procs.getD i ac) (s.procs.getD i aW))∧TT 1 (CB (!(bx (c.procs.getD i ac) (s.procs.getD i aW))) (TT 2 (false = (bX c s)∧True)) (TT 1 (W6 ((i + 1 : Nat) : Int)∧TT 1 (AG (ka c s) i (i + 1))))))))) (TT 1 (GO (fM c s) 0 (∀ n,(fM c s).inv n → TT 5 (CD ((n : Int) < (c.chans.length : Int)) (TT 3 (IX (n : Int) c.chans.length∧TT 3 (CS ((fk (s.chans.getD n []) ((c.chans.getD n aB).w)) = true) (CS (((c.chans.getD n aB).frm) ≥ 0) (CS (((c.chans.getD n aB).dst) ≥ 0) (TT 3 (IX (n : Int) s.chans.length∧TT 3 (CC (GN (s.chans.getD n []) ((c.chans.getD n aB).w))∧TT 1 ((True∧(!(fk (s.chans.getD n []) ((c.chans.getD n aB).w))) = false)∧TT 3 ((True∧(decide (((c.chans.getD n aB).frm) ≥ 0)) = true)∧TT 4 ((True∧(decide (((c.chans.getD n aB).dst) ≥ 0)) = true)∧TT 3 (IX (n : Int) s.chans.length∧TT 7 (CD ((((s.chans.getD n []).length : Nat) : Int) > ((c.chans.getD n aB).cap)) (TT 2 (false = (bX c s)∧True)) (TT 1 (W6 ((n + 1 : Nat) : Int)∧TT 1 (AG (fM c s) n (n + 1)))))))))))) (TT 3 (IX (n : Int) s.chans.length∧TT 3 (CC (GN (s.chans.getD n []) ((c.chans.getD n aB).w))∧TT 1 ((True∧(!(fk (s.chans.getD n []) ((c.chans.getD n aB).w))) = false)∧TT 3 ((True∧(decide (((c.chans.getD n aB).frm) ≥ 0)) = true)∧TT 4 ((True∧(decide (((c.chans.getD n aB).dst) ≥ 0)) = false)∧TT 3 (W6 ((n + 1 : Nat) : Int)∧TT 1 (AG (fM c s) n (n + 1)))))))))) (TT 3 (IX (n : Int) s.chans.length∧TT 3 (CC (GN (s.chans.getD n []) ((c.chans.getD n aB).w))∧TT 1 ((True∧(!(fk (s.chans.getD n []) ((c.chans.getD n aB).w))) = false)∧TT 3 ((True∧(decide (((c.chans.getD n aB).frm) ≥ 0)) = false)∧TT 5 (W6 ((n + 1 : Nat) : Int)∧TT 1 (AG (fM c s) n (n + 1))))))))) (TT 3 (IX (n : Int) s.chans.length∧TT 3 (CC (GN (s.chans.getD n []) ((c.chans.getD n aB).w))∧TT 1 ((True∧(!(fk (s.chans.getD n []) ((c.chans.getD n aB).w))) = true)∧TT 3 (false = (bX c s)∧True)))))))) (TT 2 (true = (bX c s)∧True))))))))))))) (TT 7 ((True∧(!decide ((s.procs.length : Int) = (c.procs.length : Int))) = true)∧TT 10 (false = (bX c s)∧True))))) (.s 1 ((s.procs.length : Int) = (c.procs.length : Int)) (.w 1 [(7,.val (dB false))] <| .b 23 (.e) (.l (ka c s) 0 (fun i => .b 28 (.w 6 [(10,(Lm (c.procs.getD i ac) (s.procs.getD i aW)).O)] <| .b 42 (.e) (.w 5 [(1,.val (i6 ((i + 1 : Nat) : Int)))] <| .e)) (.l (fM c s) 0 (fun n => .b 47 (.s 12 ((fk (s.chans.getD n []) ((c.chans.getD n aB).w)) = true) (.s 12 (((c.chans.getD n aB).frm) ≥ 0) (.s 12 (((c.chans.getD n aB).dst) ≥ 0) (.w 12 [(7,(GN (s.chans.getD n []) ((c.chans.getD n aB).w)).O),(9,.val (dB false)),(13,.val (dB true)),(18,.val (dB true))] <| .b 84 (.e) (.w 10 [(1,.val (i6 ((n + 1 : Nat) : Int)))] <| .e)) (.w 12 [(7,(GN (s.chans.getD n []) ((c.chans.getD n aB).w)).O),(9,.val (dB false)),(13,.val (dB true)),(18,.val (dB false))] <| .w 10 [(1,.val (i6 ((n + 1 : Nat) : Int)))] <| .e)) (.w 12 [(7,(GN (s.chans.getD n []) ((c.chans.getD n aB).w)).O),(9,.val (dB false)),(13,.val (dB false))] <| .w 10 [(1,.val (i6 ((n + 1 : Nat) : Int)))] <| .e)) (.w 12 [(7,(GN (s.chans.getD n []) ((c.chans.getD n aB).w)).O),(9,.val (dB true))] <| .e)) (.e)))))) (.w 1 [(7,.val (dB true))] <| .e)) Try.func19 rfl rfl rfl (by kernel_rfl) ?_
 refine tt ⟨fun hs0 => ?_,fun hs0 => ?_⟩
 · refine tt ⟨(nF hs0),tt (cn (fun hc23 => ?_) (fun hc23 => ?_))⟩
   · refine tt ⟨?_,oK⟩
     first | exact (pG (by omega)).symm | exact (pH (by omega)).symm | exact (pI (i := i) (by omega) (by simpa using hc42)).symm | exact (gj (n := n) (by omega) (jl (by assumption))).symm | exact (gj (n := n) (by omega) (jm (by show 0 ≤ (c.chans.getD n aB).frm; omega) (by show 0 ≤ (c.chans.getD n aB).dst; omega) (by show ¬((s.chans.getD n []).length : Int) ≤ (c.chans.getD n aB).cap; omega))).symm | exact (pJ (by omega) (by omega) (fun z hz => h3 z (by omega)) (fun z hz => h4 z (by omega))).symm
   · refine tt ⟨rfl,⟨by omega,fun z hz => by omega⟩,?_⟩
     intro i hinv
     obtain ⟨hi,h3⟩ := hinv
     refine tt (cd (fun hc28 => ?_) (fun hc28 => ?_))
     · have hpk := hc.pr i (by omega)
       refine tt ⟨ix,tt ⟨ix,tt ⟨(Cc (c.procs.getD i ac) (s.procs.getD i aW) hpk),tt ⟨fun hc42 => ?_,fun hc42 => ?_⟩⟩⟩⟩
       · refine tt ⟨?_,oK⟩
         first | exact (pG (by omega)).symm | exact (pH (by omega)).symm | exact (pI (i := i) (by omega) (by simpa using hc42)).symm | exact (gj (n := n) (by omega) (jl (by assumption))).symm | exact (gj (n := n) (by omega) (jm (by show 0 ≤ (c.chans.getD n aB).frm; omega) (by show 0 ≤ (c.chans.getD n aB).dst; omega) (by show ¬((s.chans.getD n []).length : Int) ≤ (c.chans.getD n aB).cap; omega))).symm | exact (pJ (by omega) (by omega) (fun z hz => h3 z (by omega)) (fun z hz => h4 z (by omega))).symm
       · refine tt ⟨w6,tt ⟨(i + 1),rfl,?_,(?_ : c.procs.length - (i + 1) < c.procs.length - i)⟩⟩
         · exact ⟨by omega,bc h3 (by simpa using hc42)⟩
         · omega
     · refine tt ⟨rfl,⟨by omega,fun z hz => by omega⟩,?_⟩
       intro n hinv
       obtain ⟨hn,h4⟩ := hinv
       refine tt (cd (fun hc47 => ?_) (fun hc47 => ?_))
       · refine tt ⟨ix,tt ?_⟩
         have hlw : (s.chans.getD n []).length ≤ 9223372036854775807 := hsm n
         refine ⟨fun hs1 => ?_,fun hs1 => ?_⟩
         · refine ⟨fun hs2 => ?_,fun hs2 => ?_⟩
           · refine ⟨fun hs3 => ?_,fun hs3 => ?_⟩
             · refine tt ⟨ix,tt ⟨(j9 (s.chans.getD n []) ((c.chans.getD n aB).w) hlw),tt ⟨(mF hs1),tt ⟨(vT hs2),tt ⟨(vT hs3),tt ⟨ix,tt (cd (fun hc84 => ?_) (fun hc84 => ?_))⟩⟩⟩⟩⟩⟩
               · refine tt ⟨?_,oK⟩
                 first | exact (pG (by omega)).symm | exact (pH (by omega)).symm | exact (pI (i := i) (by omega) (by simpa using hc42)).symm | exact (gj (n := n) (by omega) (jl (by assumption))).symm | exact (gj (n := n) (by omega) (jm (by show 0 ≤ (c.chans.getD n aB).frm; omega) (by show 0 ≤ (c.chans.getD n aB).dst; omega) (by show ¬((s.chans.getD n []).length : Int) ≤ (c.chans.getD n aB).cap; omega))).symm | exact (pJ (by omega) (by omega) (fun z hz => h3 z (by omega)) (fun z hz => h4 z (by omega))).symm
               · refine tt ⟨w6,tt ⟨(n + 1),rfl,?_,(?_ : c.chans.length - (n + 1) < c.chans.length - n)⟩⟩
                 · refine ⟨by omega,bc h4 ?_⟩
                   first | exact yP (by assumption) (by show ¬0 ≤ (c.chans.getD n aB).frm; omega) | exact yQ (by assumption) (by show ¬0 ≤ (c.chans.getD n aB).dst; omega) | exact yR (by assumption) (by show ((s.chans.getD n []).length : Int) ≤ (c.chans.getD n aB).cap; omega)
                 · omega
             · refine tt ⟨ix,tt ⟨(j9 (s.chans.getD n []) ((c.chans.getD n aB).w) hlw),tt ⟨(mF hs1),tt ⟨(vT hs2),tt ⟨(vF hs3),tt ⟨w6,tt ⟨(n + 1),rfl,?_,(?_ : c.chans.length - (n + 1) < c.chans.length - n)⟩⟩⟩⟩⟩⟩⟩
               · refine ⟨by omega,bc h4 ?_⟩
                 first | exact yP (by assumption) (by show ¬0 ≤ (c.chans.getD n aB).frm; omega) | exact yQ (by assumption) (by show ¬0 ≤ (c.chans.getD n aB).dst; omega) | exact yR (by assumption) (by show ((s.chans.getD n []).length : Int) ≤ (c.chans.getD n aB).cap; omega)
               · omega
           · refine tt ⟨ix,tt ⟨(j9 (s.chans.getD n []) ((c.chans.getD n aB).w) hlw),tt ⟨(mF hs1),tt ⟨(vF hs2),tt ⟨w6,tt ⟨(n + 1),rfl,?_,(?_ : c.chans.length - (n + 1) < c.chans.length - n)⟩⟩⟩⟩⟩⟩
             · refine ⟨by omega,bc h4 ?_⟩
               first | exact yP (by assumption) (by show ¬0 ≤ (c.chans.getD n aB).frm; omega) | exact yQ (by assumption) (by show ¬0 ≤ (c.chans.getD n aB).dst; omega) | exact yR (by assumption) (by show ((s.chans.getD n []).length : Int) ≤ (c.chans.getD n aB).cap; omega)
             · omega
         · refine tt ⟨ix,tt ⟨(j9 (s.chans.getD n []) ((c.chans.getD n aB).w) hlw),tt ⟨(mT hs1),tt ⟨?_,oK⟩⟩⟩⟩
           first | exact (pG (by omega)).symm | exact (pH (by omega)).symm | exact (pI (i := i) (by omega) (by simpa using hc42)).symm | exact (gj (n := n) (by omega) (jl (by assumption))).symm | exact (gj (n := n) (by omega) (jm (by show 0 ≤ (c.chans.getD n aB).frm; omega) (by show 0 ≤ (c.chans.getD n aB).dst; omega) (by show ¬((s.chans.getD n []).length : Int) ≤ (c.chans.getD n aB).cap; omega))).symm | exact (pJ (by omega) (by omega) (fun z hz => h3 z (by omega)) (fun z hz => h4 z (by omega))).symm
       · refine tt ⟨?_,oK⟩
         first | exact (pG (by omega)).symm | exact (pH (by omega)).symm | exact (pI (i := i) (by omega) (by simpa using hc42)).symm | exact (gj (n := n) (by omega) (jl (by assumption))).symm | exact (gj (n := n) (by omega) (jm (by show 0 ≤ (c.chans.getD n aB).frm; omega) (by show 0 ≤ (c.chans.getD n aB).dst; omega) (by show ¬((s.chans.getD n []).length : Int) ≤ (c.chans.getD n aB).cap; omega))).symm | exact (pJ (by omega) (by omega) (fun z hz => h3 z (by omega)) (fun z hz => h4 z (by omega))).symm
 · refine tt ⟨(nT hs0),tt ⟨?_,oK⟩⟩
   first | exact (pG (by omega)).symm | exact (pH (by omega)).symm | exact (pI (i := i) (by omega) (by simpa using hc42)).symm | exact (gj (n := n) (by omega) (jl (by assumption))).symm | exact (gj (n := n) (by omega) (jm (by show 0 ≤ (c.chans.getD n aB).frm; omega) (by show 0 ≤ (c.chans.getD n aB).dst; omega) (by show ¬((s.chans.getD n []).length : Int) ≤ (c.chans.getD n aB).cap; omega))).symm | exact (pJ (by omega) (by omega) (fun z hz => h3 z (by omega)) (fun z hz => h4 z (by omega))).symm
abbrev Ls (c : Ci) : Ct := ⟨51,[(.agg (mP c))],true,(.agg [(dL 2 bl aW ((dF c).procs)),(dL 1 ae [] ((dF c).chans))])⟩
abbrev l6 (c : Ci) : Lp (Nat) := gF [1,2,3,4] 5 (fun (i : Nat) => ⟨[(1,(.ptr 0 0 0 0)),(2,(.ptr 1 0 0 0)),(3,(.ptr 3 0 0 0)),(4,(i6 (i : Int)))],[(.var 31 (mP c)),(.var 35 [.nils,.nils]),(.arr 54 1 ae [] (List.replicate c.chans.length ([] : List Int))),(.var 35 [(.own 4),(.own 2)]),(.arr 74 2 bl aW (tab (fun i => bq (aZ c i)) i))]⟩) (fun (i : Nat) => i ≤ c.procs.length) (fun (i : Nat) => c.procs.length - i)
theorem Cg (c : Ci) (hc : bS c) : CC (Ls c) := by
 have hnl := hc.nl
 have hcl := hc.cl
 refine aq.vc (V := TT 5 ((((0 : Int) ≤ (c.chans.length : Int)∧(c.chans.length : Int) ≤ (c.chans.length : Int)∧(c.chans.length : Int) ≤ 137438953472)∧(List.replicate c.chans.length ([] : List Int)).length = c.chans.length∧∀ x ∈ (List.replicate c.chans.length ([] : List Int)),dt [.nils] (ae x))∧TT 4 (GO (l6 c) 0 (∀ i,(l6 c).inv i → TT 5 (CD ((i : Int) < (c.procs.length : Int)) (TT 5 (IX (i : Int) c.procs.length∧TT 1 (CC (Ln (c.procs.getD i ac))∧am [[(LI ((bq (c.procs.getD i ac)).regs)),(dL 1 ae [] ((bq (c.procs.getD i ac)).mems))]] ([(⟨(bq (c.procs.getD i ac)).regs,(bq (c.procs.getD i ac)).mems⟩ : Ps)].map bl)∧((tab (fun i => bq (aZ c i)) i).length + ([(⟨(bq (c.procs.getD i ac)).regs,(bq (c.procs.getD i ac)).mems⟩ : Ps)].map bl).length ≤ 137438953472∧(tab (fun i => bq (aZ c i)) i).map bl ++ [(⟨(bq (c.procs.getD i ac)).regs,(bq (c.procs.getD i ac)).mems⟩ : Ps)].map bl = (tab (fun i => bq (aZ c i)) (i + 1)).map bl)∧TT 3 (W6 ((i + 1 : Nat) : Int)∧TT 1 (AG (l6 c) i (i + 1)))))) (TT 3 ((tab (fun i => bq (aZ c i)) i).map bl = ((dF c).procs).map bl∧(List.replicate c.chans.length ([] : List Int)).map ae = ((dF c).chans).map ae∧True))))))) (.w 1 [(3,.box 54 1 ae [] (List.replicate c.chans.length ([] : List Int)))] <| .g 2 3 0 74 2 bl aW <| .l (l6 c) 0 (fun i => .b 14 (.w 5 [(7,(Ln (c.procs.getD i ac)).O),(8,.box 74 2 bl aW [(⟨(bq (c.procs.getD i ac)).regs,(bq (c.procs.getD i ac)).mems⟩ : Ps)]),(9,.box 74 2 bl aW (tab (fun i => bq (aZ c i)) (i + 1)))] <| .w 4 [(1,.val (i6 ((i + 1 : Nat) : Int)))] <| .e) (.e))) Try.func51 rfl rfl rfl (by kernel_rfl) ?_
 refine tt ⟨⟨by omega,by simp,fun x hx => by rw [List.eq_of_mem_replicate hx]; exact ⟨rfl,oK⟩⟩,tt ⟨rfl,(by omega),?_⟩⟩
 intro i hinv
 have hi := hinv
 refine tt (cd (fun hc14 => ?_) (fun hc14 => ?_))
 · have hpk := hc.pr i (by omega)
   refine tt ⟨ix,tt ⟨(Cd (c.procs.getD i ac) hpk),⟨⟨⟨rfl,rfl,oK⟩,oK⟩,⟨(ou (f := fun i => bq (aZ c i)) (by omega)),tt ⟨w6,tt ⟨(i + 1),rfl,(?_ : (i + 1) ≤ c.procs.length),(?_ : c.procs.length - (i + 1) < c.procs.length - i)⟩⟩⟩⟩⟩⟩
   · omega
   · omega
 · refine tt ⟨(congrArg _ (?_ : (tab (fun i => bq (aZ c i)) i) = ((dF c).procs))),(congrArg _ (?_ : (List.replicate c.chans.length ([] : List Int)) = ((dF c).chans))),oK⟩
   · rw [show i = c.procs.length by omega]; rfl
   · rfl
abbrev Lu (s : Ns) (n : Int) (l : List Int) : Ct := ⟨55,[(.agg (oM s)),(i6 n),(LI l)],true,(.agg [(dL 2 bl aW ((gv s n.toNat l).procs)),(dL 1 ae [] ((gv s n.toNat l).chans))])⟩
theorem GP (s : Ns) (n : Int) (l : List Int) (h1 : 0 ≤ n) (h2 : n < s.chans.length) (h3 : s.chans.length ≤ 1000000) : CC (Lu s n l) := by
 refine aq.vc (V := TT 4 (am [] (([] : List (List Int)).map ae)∧TT 2 ((([] : List (List Int)).length + (s.chans.map ae).length ≤ 137438953472∧([] : List (List Int)).map ae ++ s.chans.map ae = s.chans.map ae)∧TT 7 (IX n s.chans.length∧(n.toNat < s.chans.length∧(s.chans.map ae).set n.toNat ((ae (s.chans.getD n.toNat [])).take 0 ++ [(.sl 1 (aa .i64) 0 l)] ++ (ae (s.chans.getD n.toNat [])).drop (0 + 1)) = (s.chans.set n.toNat l).map ae)∧TT 3 (s.procs.map bl = ((gv s n.toNat l).procs).map bl∧(s.chans.set n.toNat l).map ae = ((gv s n.toNat l).chans).map ae∧True))))) (.w 1 [(2,.app false 54 1 ae [] ([] : List (List Int))),(5,.app false 54 1 ae [] s.chans)] <| .w 2 [(5,.box 54 1 ae [] (s.chans.set n.toNat l))] <| .e) Try.func55 rfl rfl rfl (by kernel_rfl) ?_
 refine tt ⟨oK,tt ⟨⟨by simp only [List.length_map,List.length_cons,List.length_nil,List.length_append,List.length_drop,List.length_take]; first | omega | (simp; first | done | omega),by simp only [List.map_append,List.map_nil,List.append_nil,List.nil_append]⟩,tt ⟨ix,⟨⟨om,by simp only [List.map_set]; rfl⟩,tt ⟨(congrArg _ (?_ : s.procs = ((gv s n.toNat l).procs))),(congrArg _ (?_ : (s.chans.set n.toNat l) = ((gv s n.toNat l).chans))),oK⟩⟩⟩⟩⟩
 all_goals (rfl)
abbrev Lv (c : Ci) (s : Ns) (p : Nat) : Ct := ⟨99,[(.agg (mP c)),(.agg (oM s)),(i6 (p : Int))],true,(.agg [(dL 2 gH cC (cE c s p)),(LB (cK c s p))])⟩
abbrev lg (c : Ci) (s : Ns) (p : Nat) : Lp (Nat) := gF [2,3,4,6,7,8] 5 (fun (i : Nat) => ⟨[(2,(i6 (p : Int))),(3,(.ptr 0 0 0 0)),(4,(.ptr 1 0 0 0)),(6,(.ptr 2 0 0 0)),(7,(.ptr 3 0 0 0)),(8,(i6 (i : Int)))],[(.var 31 (mP c)),(.var 35 (oM s)),(.var 176 [.nils,.nils]),(.var 176 [(.own 4),.nils]),(.arr 170 2 gH cC (tab (ic c s p) i))]⟩) (fun (i : Nat) => i ≤ (c.procs.getD p ac).takes.length) (fun (i : Nat) => (c.procs.getD p ac).takes.length - i)
abbrev lh (c : Ci) (s : Ns) (p : Nat) (i : Nat) : Lp (Nat) := gF [2,3,4,6,7,11] 6 (fun (m : Nat) => ⟨[(2,(i6 (p : Int))),(3,(.ptr 0 0 0 0)),(4,(.ptr 1 0 0 0)),(6,(.ptr 2 0 0 0)),(7,(.ptr 3 0 0 0)),(11,(i6 (m : Int)))],[(.var 31 (mP c)),(.var 35 (oM s)),(.var 176 [.nils,.nils]),(.var 176 [(.own 4),(.own 5)]),(.arr 170 2 gH cC (tab (ic c s p) i)),(.arr 4 1 bK false (tab (fY c s p) m))]⟩) (fun (m : Nat) => m ≤ (c.procs.getD p ac).puts.length) (fun (m : Nat) => (c.procs.getD p ac).puts.length - m)
theorem ET (c : Ci) (s : Ns) (p : Nat) (hc : bS c) (hs : er c s) (hp : p < c.procs.length) : CC (Lv c s p) := by
 have hnl := hc.nl
 have hcl := hc.cl
 have hpk : gi (c.procs.getD p ac) := hc.pr p hp
 have hl1 := hs.pl
 have hl2 := hs.cl
 have ht1 : (c.procs.getD p ac).takes.length ≤ 100 := hpk.tl
 have ht2 : (c.procs.getD p ac).puts.length ≤ 100 := hpk.pl
 refine aq.vc (V := TT 7 (GO (lg c s p) 0 (∀ i,(lg c s p).inv i → TT 4 (IX (p : Int) c.procs.length∧TT 4 (CD ((i : Int) < ((((c.procs.getD p ac).takes).length : Nat) : Int)) (TT 5 (IX (p : Int) c.procs.length∧TT 3 (IX (i : Int) (((c.procs.getD p ac).takes).length)∧TT 2 (IX ((((c.procs.getD p ac).takes).getD i bO).chan) s.chans.length∧TT 8 (CD ((((s.chans.getD (((((c.procs.getD p ac).takes).getD i bO).chan).toNat) []).length : Nat) : Int) > 0) (TT 1 (IX 0 ((s.chans.getD (((((c.procs.getD p ac).takes).getD i bO).chan).toNat) []).length)∧TT 6 (am [[(dB true),(i6 ((s.chans.getD (((((c.procs.getD p ac).takes).getD i bO).chan).toNat) []).getD 0 0))]] ([(⟨true,((s.chans.getD (((((c.procs.getD p ac).takes).getD i bO).chan).toNat) []).getD 0 0)⟩ : Hd)].map gH)∧((tab (ic c s p) i).length + ([(⟨true,((s.chans.getD (((((c.procs.getD p ac).takes).getD i bO).chan).toNat) []).getD 0 0)⟩ : Hd)].map gH).length ≤ 137438953472∧(tab (ic c s p) i).map gH ++ [(⟨true,((s.chans.getD (((((c.procs.getD p ac).takes).getD i bO).chan).toNat) []).getD 0 0)⟩ : Hd)].map gH = (tab (ic c s p) (i + 1)).map gH)∧TT 3 (W6 ((i + 1 : Nat) : Int)∧TT 1 (AG (lg c s p) i (i + 1)))))) (TT 3 (am [[(dB false),(i6 0)]] ([(⟨false,0⟩ : Hd)].map gH)∧((tab (ic c s p) i).length + ([(⟨false,0⟩ : Hd)].map gH).length ≤ 137438953472∧(tab (ic c s p) i).map gH ++ [(⟨false,0⟩ : Hd)].map gH = (tab (ic c s p) (i + 1)).map gH)∧TT 3 (W6 ((i + 1 : Nat) : Int)∧TT 1 (AG (lg c s p) i (i + 1)))))))))) (TT 1 (GO (lh c s p i) 0 (∀ m,(lh c s p i).inv m → TT 4 (IX (p : Int) c.procs.length∧TT 4 (CD ((m : Int) < ((((c.procs.getD p ac).puts).length : Nat) : Int)) (TT 3 (IX (p : Int) c.procs.length∧TT 3 (IX (m : Int) (((c.procs.getD p ac).puts).length)∧TT 3 (CS (((c.chans.getD (((((c.procs.getD p ac).puts).getD m bU).chan).toNat) aB).dst) = (-1)) (TT 5 (IX ((((c.procs.getD p ac).puts).getD m bU).chan) c.chans.length∧TT 3 ((True∧(decide (((c.chans.getD (((((c.procs.getD p ac).puts).getD m bU).chan).toNat) aB).dst) = (-1))) = true)∧TT 1 (am [[(dB true)]] ([true].map bK)∧((tab (fY c s p) m).length + ([true].map bK).length ≤ 137438953472∧(tab (fY c s p) m).map bK ++ [true].map bK = (tab (fY c s p) (m + 1)).map bK)∧TT 3 (W6 ((m + 1 : Nat) : Int)∧TT 1 (AG (lh c s p i) m (m + 1))))))) (TT 5 (IX ((((c.procs.getD p ac).puts).getD m bU).chan) c.chans.length∧TT 3 ((True∧(decide (((c.chans.getD (((((c.procs.getD p ac).puts).getD m bU).chan).toNat) aB).dst) = (-1))) = false)∧TT 3 (IX ((((c.procs.getD p ac).puts).getD m bU).chan) s.chans.length∧TT 5 (IX ((((c.procs.getD p ac).puts).getD m bU).chan) c.chans.length∧TT 4 (am [[(dB (decide ((((s.chans.getD (((((c.procs.getD p ac).puts).getD m bU).chan).toNat) []).length : Nat) : Int) < ((c.chans.getD (((((c.procs.getD p ac).puts).getD m bU).chan).toNat) aB).cap))))]] ([decide ((((s.chans.getD (((((c.procs.getD p ac).puts).getD m bU).chan).toNat) []).length : Nat) : Int) < ((c.chans.getD (((((c.procs.getD p ac).puts).getD m bU).chan).toNat) aB).cap))].map bK)∧((tab (fY c s p) m).length + ([decide ((((s.chans.getD (((((c.procs.getD p ac).puts).getD m bU).chan).toNat) []).length : Nat) : Int) < ((c.chans.getD (((((c.procs.getD p ac).puts).getD m bU).chan).toNat) aB).cap))].map bK).length ≤ 137438953472∧(tab (fY c s p) m).map bK ++ [decide ((((s.chans.getD (((((c.procs.getD p ac).puts).getD m bU).chan).toNat) []).length : Nat) : Int) < ((c.chans.getD (((((c.procs.getD p ac).puts).getD m bU).chan).toNat) aB).cap))].map bK = (tab (fY c s p) (m + 1)).map bK)∧TT 3 (W6 ((m + 1 : Nat) : Int)∧TT 1 (AG (lh c s p i) m (m + 1))))))))))))) (TT 3 ((tab (ic c s p) i).map gH = (cE c s p).map gH∧(tab (fY c s p) m).map bK = (cK c s p).map bK∧True)))))))))))) (.g 2 3 0 170 2 gH cC <| .l (lg c s p) 0 (fun i => .b 22 (.b 42 (.w 9 [(3,.box 170 2 gH cC [(⟨true,((s.chans.getD (((((c.procs.getD p ac).takes).getD i bO).chan).toNat) []).getD 0 0)⟩ : Hd)]),(4,.box 170 2 gH cC (tab (ic c s p) (i + 1)))] <| .w 4 [(1,.val (i6 ((i + 1 : Nat) : Int)))] <| .e) (.w 9 [(3,.box 170 2 gH cC [(⟨false,0⟩ : Hd)]),(4,.box 170 2 gH cC (tab (ic c s p) (i + 1)))] <| .w 4 [(1,.val (i6 ((i + 1 : Nat) : Int)))] <| .e)) (.g 10 3 1 4 1 bK false <| .l (lh c s p i) 0 (fun m => .b 61 (.s 14 (((c.chans.getD (((((c.procs.getD p ac).puts).getD m bU).chan).toNat) aB).dst) = (-1)) (.w 14 [(9,.val (dB true)),(24,.box 4 1 bK false [true]),(25,.box 4 1 bK false (tab (fY c s p) (m + 1)))] <| .w 12 [(1,.val (i6 ((m + 1 : Nat) : Int)))] <| .e) (.w 14 [(9,.val (dB false)),(24,.box 4 1 bK false [decide ((((s.chans.getD (((((c.procs.getD p ac).puts).getD m bU).chan).toNat) []).length : Nat) : Int) < ((c.chans.getD (((((c.procs.getD p ac).puts).getD m bU).chan).toNat) aB).cap))]),(25,.box 4 1 bK false (tab (fY c s p) (m + 1)))] <| .w 12 [(1,.val (i6 ((m + 1 : Nat) : Int)))] <| .e)) (.e))))) Try.func99 rfl rfl rfl (by kernel_rfl) ?_
 refine tt ⟨rfl,(by omega),?_⟩
 intro i hinv
 have hi := hinv
 refine tt ⟨ix,tt (cd (fun hc22 => ?_) (fun hc22 => ?_))⟩
 · have htk : 0 ≤ ((c.procs.getD p ac).takes.getD i bO).chan∧((c.procs.getD p ac).takes.getD i bO).chan < c.chans.length := ⟨(hc.tk p hp i (show i < (c.procs.getD p ac).takes.length by omega)).1,(hc.tk p hp i (show i < (c.procs.getD p ac).takes.length by omega)).2.1⟩
   refine tt ⟨ix,tt ⟨ix,tt ⟨ix,tt (cd (fun hc42 => ?_) (fun hc42 => ?_))⟩⟩⟩
   · refine tt ⟨ix,tt ⟨⟨⟨rfl,rfl,oK⟩,oK⟩,⟨(aV (by omega) (by first | exact (if_pos (show 0 < (s.chans.getD ((c.procs.getD p ac).takes.getD i bO).chan.toNat []).length by omega)).symm | exact (if_neg (show ¬0 < (s.chans.getD ((c.procs.getD p ac).takes.getD i bO).chan.toNat []).length by omega)).symm)),tt ⟨w6,tt ⟨(i + 1),rfl,(?_ : (i + 1) ≤ (c.procs.getD p ac).takes.length),(?_ : (c.procs.getD p ac).takes.length - (i + 1) < (c.procs.getD p ac).takes.length - i)⟩⟩⟩⟩⟩
     · omega
     · omega
   · refine tt ⟨⟨⟨rfl,rfl,oK⟩,oK⟩,⟨(aV (by omega) (by first | exact (if_pos (show 0 < (s.chans.getD ((c.procs.getD p ac).takes.getD i bO).chan.toNat []).length by omega)).symm | exact (if_neg (show ¬0 < (s.chans.getD ((c.procs.getD p ac).takes.getD i bO).chan.toNat []).length by omega)).symm)),tt ⟨w6,tt ⟨(i + 1),rfl,(?_ : (i + 1) ≤ (c.procs.getD p ac).takes.length),(?_ : (c.procs.getD p ac).takes.length - (i + 1) < (c.procs.getD p ac).takes.length - i)⟩⟩⟩⟩
     · omega
     · omega
 · refine tt ⟨rfl,(by omega),?_⟩
   intro m hinv
   have hm := hinv
   refine tt ⟨ix,tt (cd (fun hc61 => ?_) (fun hc61 => ?_))⟩
   · have hpt : 0 ≤ ((c.procs.getD p ac).puts.getD m bU).chan∧((c.procs.getD p ac).puts.getD m bU).chan < c.chans.length := ⟨(hc.pt p hp m (show m < (c.procs.getD p ac).puts.length by omega)).1,(hc.pt p hp m (show m < (c.procs.getD p ac).puts.length by omega)).2.1⟩
     refine tt ⟨ix,tt ⟨ix,tt ⟨fun hs0 => ?_,fun hs0 => ?_⟩⟩⟩
     · refine tt ⟨ix,tt ⟨(vT hs0),tt ⟨⟨⟨rfl,oK⟩,oK⟩,⟨(aV (by omega) (by first | exact (DU hs0).symm | exact (vM hs0).symm | exact (vM hs1).symm)),tt ⟨w6,tt ⟨(m + 1),rfl,(?_ : (m + 1) ≤ (c.procs.getD p ac).puts.length),(?_ : (c.procs.getD p ac).puts.length - (m + 1) < (c.procs.getD p ac).puts.length - m)⟩⟩⟩⟩⟩⟩
       · omega
       · omega
     · refine tt ⟨ix,tt ⟨(vF hs0),tt ⟨ix,tt ⟨ix,tt ⟨⟨⟨rfl,oK⟩,oK⟩,⟨(aV (by omega) (by first | exact (DU hs0).symm | exact (vM hs0).symm | exact (vM hs1).symm)),tt ⟨w6,tt ⟨(m + 1),rfl,(?_ : (m + 1) ≤ (c.procs.getD p ac).puts.length),(?_ : (c.procs.getD p ac).puts.length - (m + 1) < (c.procs.getD p ac).puts.length - m)⟩⟩⟩⟩⟩⟩⟩⟩
       · omega
       · omega
   · refine tt ⟨(congrArg _ (?_ : (tab (ic c s p) i) = (cE c s p))),(congrArg _ (?_ : (tab (fY c s p) m) = (cK c s p))),oK⟩
     · rw [show i = (c.procs.getD p ac).takes.length by omega]; rfl
     · rw [show m = (c.procs.getD p ac).puts.length by omega]; rfl
abbrev Kd (c : Ci) (s : Ns) (p : Nat) : Ct := ⟨92,[(.agg (mP c)),(.agg (oM s)),(i6 (p : Int))],true,(.agg [(dB ((az c s p).fires)),(LI (((az c s p).s).regs)),(dL 1 ae [] (((az c s p).s).mems)),(LB ((az c s p).pops)),(dL 2 gH cC ((az c s p).puts))])⟩
theorem uK (c : Ci) (s : Ns) (p : Nat) (hc : bS c) (hs : er c s) (hp : p < c.procs.length) : CC (Kd c s p) := by
 have hnl := hc.nl
 have hcl := hc.cl
 have hpk : gi (c.procs.getD p ac) := hc.pr p hp
 have hl1 := hs.pl
 have hl2 := hs.cl
 have ht1 : (c.procs.getD p ac).takes.length ≤ 100 := hpk.tl
 have ht2 : (c.procs.getD p ac).puts.length ≤ 100 := hpk.pl
 refine aq.vc (V := TT 6 (IX (p : Int) c.procs.length∧TT 4 (IX (p : Int) s.procs.length∧TT 4 (CC (Lv c s p)∧CC (Lo (c.procs.getD p ac) (s.procs.getD p aW) (cE c s p) (cK c s p))∧TT 2 (((bk (c.procs.getD p ac) (s.procs.getD p aW) (cE c s p) (cK c s p)).fires) = ((az c s p).fires)∧(((bk (c.procs.getD p ac) (s.procs.getD p aW) (cE c s p) (cK c s p)).s).regs).map (aa .i64) = (((az c s p).s).regs).map (aa .i64)∧(((bk (c.procs.getD p ac) (s.procs.getD p aW) (cE c s p) (cK c s p)).s).mems).map ae = (((az c s p).s).mems).map ae∧((bk (c.procs.getD p ac) (s.procs.getD p aW) (cE c s p) (cK c s p)).pops).map bK = ((az c s p).pops).map bK∧((bk (c.procs.getD p ac) (s.procs.getD p aW) (cE c s p) (cK c s p)).puts).map gH = ((az c s p).puts).map gH∧True))))) (.w 1 [(13,(Lv c s p).O),(14,(Lo (c.procs.getD p ac) (s.procs.getD p aW) (cE c s p) (cK c s p)).O)] <| .e) Try.func92 rfl rfl rfl (by kernel_rfl) ?_
 refine tt ⟨ix,tt ⟨ix,tt ⟨(ET c s p hc hs hp),⟨(Ce (c.procs.getD p ac) (s.procs.getD p aW) (cE c s p) (cK c s p) hpk (hs.pv p hp) (se hc hs hp) (by rw [cK,aJ])),tt ⟨?_,(congrArg _ (?_ : (((bk (c.procs.getD p ac) (s.procs.getD p aW) (cE c s p) (cK c s p)).s).regs) = (((az c s p).s).regs))),(congrArg _ (?_ : (((bk (c.procs.getD p ac) (s.procs.getD p aW) (cE c s p) (cK c s p)).s).mems) = (((az c s p).s).mems))),(congrArg _ (?_ : ((bk (c.procs.getD p ac) (s.procs.getD p aW) (cE c s p) (cK c s p)).pops) = ((az c s p).pops))),(congrArg _ (?_ : ((bk (c.procs.getD p ac) (s.procs.getD p aW) (cE c s p) (cK c s p)).puts) = ((az c s p).puts))),oK⟩⟩⟩⟩⟩
 all_goals (rfl)
abbrev Lw (c : Ci) (s : Ns) (p : Int) : Ct := ⟨78,[(.agg (mP c)),(.agg (oM s)),(i6 p)],false,(dB (ie c s p))⟩
theorem GQ (c : Ci) (s : Ns) (p : Int) (hc : bS c) (hs : er c s) : CC (Lw c s p) := by
 have hnl := hc.nl
 have hcl := hc.cl
 refine aq.vc (V := TT 3 (CS (p ≥ 0) (CS (p < (c.procs.length : Int)) (TT 2 ((True∧(decide (p ≥ 0)) = true)∧TT 6 ((True∧(decide (p < (c.procs.length : Int))) = true)∧TT 2 ((True∧p = (p.toNat : Int))∧CC (Kd c s p.toNat)∧TT 4 (((az c s p.toNat).fires) = (ie c s p)∧True))))) (TT 2 ((True∧(decide (p ≥ 0)) = true)∧TT 6 ((True∧(decide (p < (c.procs.length : Int))) = false)∧TT 8 (false = (ie c s p)∧True))))) (TT 2 ((True∧(decide (p ≥ 0)) = false)∧TT 15 (false = (ie c s p)∧True))))) (.s 1 (p ≥ 0) (.s 1 (p < (c.procs.length : Int)) (.w 1 [(2,.val (dB true)),(9,.val (dB true)),(12,.val (i6 (p.toNat : Int))),(13,(Kd c s p.toNat).O)] <| .e) (.w 1 [(2,.val (dB true)),(9,.val (dB false))] <| .e)) (.w 1 [(2,.val (dB false))] <| .e)) Try.func78 rfl rfl rfl (by kernel_rfl) ?_
 refine tt ⟨fun hs0 => ?_,fun hs0 => ?_⟩
 · refine ⟨fun hs1 => ?_,fun hs1 => ?_⟩
   · refine tt ⟨(vT hs0),tt ⟨(vT hs1),tt ⟨⟨oK,(by omega)⟩,⟨(uK c s p.toNat hc hs (by omega)),tt ⟨?_,oK⟩⟩⟩⟩⟩
     first | exact (sq (by omega)).symm | exact (ss (by omega)).symm | exact (qM (by omega) (by omega)).symm
   · refine tt ⟨(vT hs0),tt ⟨(vF hs1),tt ⟨?_,oK⟩⟩⟩
     first | exact (sq (by omega)).symm | exact (ss (by omega)).symm | exact (qM (by omega) (by omega)).symm
 · refine tt ⟨(vF hs0),tt ⟨?_,oK⟩⟩
   first | exact (sq (by omega)).symm | exact (ss (by omega)).symm | exact (qM (by omega) (by omega)).symm
abbrev Lx (a b : Ns) : Ct := ⟨22,[(.agg [(dL 2 bl aW a.procs),(dL 1 ae [] a.chans)]),(.agg [(dL 2 bl aW b.procs),(dL 1 ae [] b.chans)])],false,(dB (cx a b))⟩
abbrev l7 (a : Ns) (b : Ns) : Lp (Nat) := gF [2,3,5] 2 (fun (i : Nat) => ⟨[(2,(.ptr 0 0 0 0)),(3,(.ptr 1 0 0 0)),(5,(i6 (i : Int)))],[(.var 35 [(dL 2 bl aW a.procs),(dL 1 ae [] a.chans)]),(.var 35 [(dL 2 bl aW b.procs),(dL 1 ae [] b.chans)])]⟩) (fun (i : Nat) => i ≤ a.procs.length∧∀ z,z < i → de (a.procs.getD z aW) (b.procs.getD z aW) = true) (fun (i : Nat) => a.procs.length - i)
abbrev l8 (a : Ns) (b : Ns) : Lp (Nat) := gF [2,3,6] 2 (fun (n : Nat) => ⟨[(2,(.ptr 0 0 0 0)),(3,(.ptr 1 0 0 0)),(6,(i6 (n : Int)))],[(.var 35 [(dL 2 bl aW a.procs),(dL 1 ae [] a.chans)]),(.var 35 [(dL 2 bl aW b.procs),(dL 1 ae [] b.chans)])]⟩) (fun (n : Nat) => n ≤ a.chans.length∧∀ z,z < n → a.chans.getD z [] = b.chans.getD z []) (fun (n : Nat) => a.chans.length - n)
theorem Cj (a b : Ns) (hz : Ig a) : CC (Lx a b) := by
 obtain ⟨hap,hac,hcb,hpa,hpb,hpc⟩ := hz
 refine aq.vc (V := TT 3 (CS ((a.procs.length : Int) = (b.procs.length : Int)) (TT 7 ((True∧(!decide ((a.procs.length : Int) = (b.procs.length : Int))) = false)∧TT 8 (CN ((a.chans.length : Int) = (b.chans.length : Int)) (TT 2 (false = (cx a b)∧True)) (TT 1 (GO (l7 a b) 0 (∀ i,(l7 a b).inv i → TT 5 (CD ((i : Int) < (a.procs.length : Int)) (TT 3 (IX (i : Int) a.procs.length∧TT 4 (IX (i : Int) b.procs.length∧TT 1 (CC (Lq (a.procs.getD i aW) (b.procs.getD i aW))∧TT 1 (CB (!(de (a.procs.getD i aW) (b.procs.getD i aW))) (TT 2 (false = (cx a b)∧True)) (TT 1 (W6 ((i + 1 : Nat) : Int)∧TT 1 (AG (l7 a b) i (i + 1))))))))) (TT 1 (GO (l8 a b) 0 (∀ n,(l8 a b).inv n → TT 5 (CD ((n : Int) < (a.chans.length : Int)) (TT 3 (IX (n : Int) a.chans.length∧TT 4 (IX (n : Int) b.chans.length∧TT 1 (CC (GM (a.chans.getD n []) (b.chans.getD n []))∧TT 1 (CN ((a.chans.getD n []) = (b.chans.getD n [])) (TT 2 (false = (cx a b)∧True)) (TT 1 (W6 ((n + 1 : Nat) : Int)∧TT 1 (AG (l8 a b) n (n + 1))))))))) (TT 2 (true = (cx a b)∧True))))))))))))) (TT 7 ((True∧(!decide ((a.procs.length : Int) = (b.procs.length : Int))) = true)∧TT 10 (false = (cx a b)∧True))))) (.s 1 ((a.procs.length : Int) = (b.procs.length : Int)) (.w 1 [(7,.val (dB false))] <| .b 22 (.e) (.l (l7 a b) 0 (fun i => .b 27 (.w 6 [(10,(Lq (a.procs.getD i aW) (b.procs.getD i aW)).O)] <| .b 41 (.e) (.w 5 [(1,.val (i6 ((i + 1 : Nat) : Int)))] <| .e)) (.l (l8 a b) 0 (fun n => .b 46 (.w 11 [(10,(GM (a.chans.getD n []) (b.chans.getD n [])).O)] <| .b 60 (.e) (.w 10 [(1,.val (i6 ((n + 1 : Nat) : Int)))] <| .e)) (.e)))))) (.w 1 [(7,.val (dB true))] <| .e)) Try.func22 rfl rfl rfl (by kernel_rfl) ?_
 refine tt ⟨fun hs0 => ?_,fun hs0 => ?_⟩
 · refine tt ⟨(nF hs0),tt (cn (fun hc22 => ?_) (fun hc22 => ?_))⟩
   · refine tt ⟨?_,oK⟩
     first | exact (io (by omega)).symm | exact (ip (by omega)).symm | exact (iq (i := i) (by omega) (by simpa using hc41)).symm | exact (ir (n := n) (by simpa using hc60)).symm | exact (it (by omega) (by omega) (fun z hz => h3 z (by omega)) (fun z hz => h4 z (by omega))).symm
   · refine tt ⟨rfl,⟨by omega,fun z hz => by omega⟩,?_⟩
     intro i hinv
     obtain ⟨hi,h3⟩ := hinv
     refine tt (cd (fun hc27 => ?_) (fun hc27 => ?_))
     · refine tt ⟨ix,tt ⟨ix,tt ⟨(Cf (a.procs.getD i aW) (b.procs.getD i aW) (by have := hpa i; omega) (by have := hpb i; omega) (fun j => by have := hpc i j; omega)),tt ⟨fun hc41 => ?_,fun hc41 => ?_⟩⟩⟩⟩
       · refine tt ⟨?_,oK⟩
         first | exact (io (by omega)).symm | exact (ip (by omega)).symm | exact (iq (i := i) (by omega) (by simpa using hc41)).symm | exact (ir (n := n) (by simpa using hc60)).symm | exact (it (by omega) (by omega) (fun z hz => h3 z (by omega)) (fun z hz => h4 z (by omega))).symm
       · refine tt ⟨w6,tt ⟨(i + 1),rfl,?_,(?_ : a.procs.length - (i + 1) < a.procs.length - i)⟩⟩
         · exact ⟨by omega,bc h3 (by simpa using hc41)⟩
         · omega
     · refine tt ⟨rfl,⟨by omega,fun z hz => by omega⟩,?_⟩
       intro n hinv
       obtain ⟨hn,h4⟩ := hinv
       refine tt (cd (fun hc46 => ?_) (fun hc46 => ?_))
       · refine tt ⟨ix,tt ⟨ix,tt ⟨(qV (a.chans.getD n []) (b.chans.getD n []) (by have := hcb n; omega)),tt (cn (fun hc60 => ?_) (fun hc60 => ?_))⟩⟩⟩
         · refine tt ⟨?_,oK⟩
           first | exact (io (by omega)).symm | exact (ip (by omega)).symm | exact (iq (i := i) (by omega) (by simpa using hc41)).symm | exact (ir (n := n) (by simpa using hc60)).symm | exact (it (by omega) (by omega) (fun z hz => h3 z (by omega)) (fun z hz => h4 z (by omega))).symm
         · refine tt ⟨w6,tt ⟨(n + 1),rfl,?_,(?_ : a.chans.length - (n + 1) < a.chans.length - n)⟩⟩
           · exact ⟨by omega,bc h4 (by simpa using hc60)⟩
           · omega
       · refine tt ⟨?_,oK⟩
         first | exact (io (by omega)).symm | exact (ip (by omega)).symm | exact (iq (i := i) (by omega) (by simpa using hc41)).symm | exact (ir (n := n) (by simpa using hc60)).symm | exact (it (by omega) (by omega) (fun z hz => h3 z (by omega)) (fun z hz => h4 z (by omega))).symm
 · refine tt ⟨(nT hs0),tt ⟨?_,oK⟩⟩
   first | exact (io (by omega)).symm | exact (ip (by omega)).symm | exact (iq (i := i) (by omega) (by simpa using hc41)).symm | exact (ir (n := n) (by simpa using hc60)).symm | exact (it (by omega) (by omega) (fun z hz => h3 z (by omega)) (fun z hz => h4 z (by omega))).symm
end Go.Proofs.Ytnlmlkbaflmgcaa
