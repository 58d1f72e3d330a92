/-
  The reference of package network: states, words, single processes.
-/
import Derived.Test.YtgmpoenfoacofaaGreatQNeJ
import Derived.Test.YtgmpoenfoacofaaGreatQBitR
import Derived.Test.YtgmpoenfoacofaaGreatQPrD
namespace Go.Proofs.YtgmpoenfoacofaaGreat
open Go.RowKit
set_option linter.unusedVariables false
set_option linter.unusedSimpArgs false
abbrev kq (c : Ci) : List D := [(dL 6 eI ax c.procs),(dL 5 eP a8 c.chans)]
abbrev lk (s : Ns) : List D := [(dL 2 be bx s.procs),(dL 1 ac [] s.chans)]
set_option maxRecDepth 100000
abbrev G9 (l : List Int) (w : Int) : Ct := ⟨46,[(LI l),(i6 w)],false,(dB (cD l w))⟩
abbrev jS (l : List Int) (w : Int) : Lp (Nat) := iy [0,1,5] 0 (fun (i : Nat) => ⟨[(0,(LI l)),(1,(i6 w)),(5,(i6 (i : Int)))],[]⟩) (fun (i : Nat) => i ≤ l.length∧∀ z,z < i → c8 (l.getD z 0) w = true) (fun (i : Nat) => l.length - i)
theorem jT (l : List Int) (w : Int) (hl : l.length ≤ 9223372036854775807) : CC (G9 l w) := by
 refine ah.vc (V := TT 2 (GO (jS l w) 0 (∀ i,(jS l w).inv i → TT 4 (CD ((i : Int) < (l.length : Int)) (CS ((l.getD i 0) < 0) (TT 2 (IX (i : Int) l.length∧TT 2 ((True∧(decide ((l.getD i 0) < 0)) = true)∧TT 3 (false = (cD l w)∧True)))) (TT 2 (IX (i : Int) l.length∧TT 2 ((True∧(decide ((l.getD i 0) < 0)) = false)∧TT 2 (IX (i : Int) l.length∧TT 2 (CC (z9 w)∧TT 2 (CD ((l.getD i 0) > (af w)) (TT 2 (false = (cD l w)∧True)) (TT 1 (W6 ((i + 1 : Nat) : Int)∧TT 1 (AG (jS l w) i (i + 1))))))))))) (TT 2 (true = (cD l w)∧True)))))) (.l (jS l w) 0 (fun i => .b 9 (.s 4 ((l.getD i 0) < 0) (.w 4 [(5,.val (dB true))] <| .e) (.w 4 [(5,.val (dB false)),(11,(z9 w).O)] <| .b 25 (.e) (.w 3 [(1,.val (i6 ((i + 1 : Nat) : Int)))] <| .e))) (.e))) Tryz.func46 rfl rfl rfl (by kernel_rfl) ?_
 refine tt ⟨rfl,⟨by omega,fun z hz => by omega⟩,?_⟩
 intro i hinv
 obtain ⟨hi,h3⟩ := hinv
 refine tt (cd (fun hc9 => ?_) (fun hc9 => ?_))
 · refine ⟨fun hs0 => ?_,fun hs0 => ?_⟩
   · refine tt ⟨ix,tt ⟨(vT hs0),tt ⟨?_,oK⟩⟩⟩
     first | exact (l5 (i := i) (by omega) (w5 hs0)).symm | exact (l5 (i := i) (by omega) (w7 hc25)).symm | exact (tK (fun z hz => h3 z (by omega))).symm
   · refine tt ⟨ix,tt ⟨(vF hs0),tt ⟨ix,tt ⟨(ik w),tt (cd (fun hc25 => ?_) (fun hc25 => ?_))⟩⟩⟩⟩
     · refine tt ⟨?_,oK⟩
       first | exact (l5 (i := i) (by omega) (w5 hs0)).symm | exact (l5 (i := i) (by omega) (w7 hc25)).symm | exact (tK (fun z hz => h3 z (by omega))).symm
     · refine tt ⟨w6,tt ⟨(i + 1),rfl,?_,(?_ : l.length - (i + 1) < l.length - i)⟩⟩
       · exact ⟨by omega,cK h3 (GY hs0 hc25)⟩
       · omega
 · refine tt ⟨?_,oK⟩
   first | exact (l5 (i := i) (by omega) (w5 hs0)).symm | exact (l5 (i := i) (by omega) (w7 hc25)).symm | exact (tK (fun z hz => h3 z (by omega))).symm
abbrev Dl (c : Ci) (s : Ns) : Ct := ⟨24,[(.agg (kq c)),(.agg (lk s))],false,(dB (bN c s))⟩
abbrev jU (c : Ci) (s : Ns) : Lp (Nat) := iy [2,3,5] 2 (fun (i : Nat) => ⟨[(2,(.ptr 0 0 0 0)),(3,(.ptr 1 0 0 0)),(5,(i6 (i : Int)))],[(.var 38 (kq c)),(.var 42 (lk s))]⟩) (fun (i : Nat) => i ≤ c.procs.length∧∀ z,z < i → bQ (bJ c z) (wG s z) = true) (fun (i : Nat) => c.procs.length - i)
abbrev fw (c : Ci) (s : Ns) : Lp (Nat) := iy [2,3,6] 2 (fun (n : Nat) => ⟨[(2,(.ptr 0 0 0 0)),(3,(.ptr 1 0 0 0)),(6,(i6 (n : Int)))],[(.var 38 (kq c)),(.var 42 (lk s))]⟩) (fun (n : Nat) => n ≤ c.chans.length∧∀ z,z < n → ia c s z = true) (fun (n : Nat) => c.chans.length - n)
theorem fx (c : Ci) (s : Ns) (hc : a6 c) (hsm : ic s 9223372036854775807) : CC (Dl c s) := by
 have hnl := hc.nl
 have hcl := hc.cl
 refine ah.vc (V := TT 3 (CS ((s.procs.length : Int) = (c.procs.length : Int)) (TT 7 ((True∧(!decide ((s.procs.length : Int) = (c.procs.length : Int))) = false)∧TT 8 (CN ((s.chans.length : Int) = (c.chans.length : Int)) (TT 2 (false = (bN c s)∧True)) (TT 1 (GO (jU c s) 0 (∀ i,(jU c s).inv i → TT 5 (CD ((i : Int) < (c.procs.length : Int)) (TT 3 (IX (i : Int) c.procs.length∧TT 4 (IX (i : Int) s.procs.length∧TT 1 (CC (Ll (c.procs.getD i ax) (s.procs.getD i bx))∧TT 1 (CB (!(bQ (c.procs.getD i ax) (s.procs.getD i bx))) (TT 2 (false = (bN c s)∧True)) (TT 1 (W6 ((i + 1 : Nat) : Int)∧TT 1 (AG (jU c s) i (i + 1))))))))) (TT 1 (GO (fw c s) 0 (∀ n,(fw c s).inv n → TT 5 (CD ((n : Int) < (c.chans.length : Int)) (TT 3 (IX (n : Int) c.chans.length∧TT 3 (CS ((cD (s.chans.getD n []) ((c.chans.getD n a8).w)) = true) (CS (((c.chans.getD n a8).frm) ≥ 0) (CS (((c.chans.getD n a8).dst) ≥ 0) (TT 3 (IX (n : Int) s.chans.length∧TT 3 (CC (G9 (s.chans.getD n []) ((c.chans.getD n a8).w))∧TT 1 ((True∧(!(cD (s.chans.getD n []) ((c.chans.getD n a8).w))) = false)∧TT 3 ((True∧(decide (((c.chans.getD n a8).frm) ≥ 0)) = true)∧TT 4 ((True∧(decide (((c.chans.getD n a8).dst) ≥ 0)) = true)∧TT 3 (IX (n : Int) s.chans.length∧TT 7 (CD ((((s.chans.getD n []).length : Nat) : Int) > ((c.chans.getD n a8).cap)) (TT 2 (false = (bN c s)∧True)) (TT 1 (W6 ((n + 1 : Nat) : Int)∧TT 1 (AG (fw c s) n (n + 1)))))))))))) (TT 3 (IX (n : Int) s.chans.length∧TT 3 (CC (G9 (s.chans.getD n []) ((c.chans.getD n a8).w))∧TT 1 ((True∧(!(cD (s.chans.getD n []) ((c.chans.getD n a8).w))) = false)∧TT 3 ((True∧(decide (((c.chans.getD n a8).frm) ≥ 0)) = true)∧TT 4 ((True∧(decide (((c.chans.getD n a8).dst) ≥ 0)) = false)∧TT 3 (W6 ((n + 1 : Nat) : Int)∧TT 1 (AG (fw c s) n (n + 1)))))))))) (TT 3 (IX (n : Int) s.chans.length∧TT 3 (CC (G9 (s.chans.getD n []) ((c.chans.getD n a8).w))∧TT 1 ((True∧(!(cD (s.chans.getD n []) ((c.chans.getD n a8).w))) = false)∧TT 3 ((True∧(decide (((c.chans.getD n a8).frm) ≥ 0)) = false)∧TT 5 (W6 ((n + 1 : Nat) : Int)∧TT 1 (AG (fw c s) n (n + 1))))))))) (TT 3 (IX (n : Int) s.chans.length∧TT 3 (CC (G9 (s.chans.getD n []) ((c.chans.getD n a8).w))∧TT 1 ((True∧(!(cD (s.chans.getD n []) ((c.chans.getD n a8).w))) = true)∧TT 3 (false = (bN c s)∧True)))))))) (TT 2 (true = (bN c s)∧True))))))))))))) (TT 7 ((True∧(!decide ((s.procs.length : Int) = (c.procs.length : Int))) = true)∧TT 10 (false = (bN c s)∧True))))) (.s 1 ((s.procs.length : Int) = (c.procs.length : Int)) (.w 1 [(7,.val (dB false))] <| .b 23 (.e) (.l (jU c s) 0 (fun i => .b 28 (.w 6 [(10,(Ll (c.procs.getD i ax) (s.procs.getD i bx)).O)] <| .b 42 (.e) (.w 5 [(1,.val (i6 ((i + 1 : Nat) : Int)))] <| .e)) (.l (fw c s) 0 (fun n => .b 47 (.s 12 ((cD (s.chans.getD n []) ((c.chans.getD n a8).w)) = true) (.s 12 (((c.chans.getD n a8).frm) ≥ 0) (.s 12 (((c.chans.getD n a8).dst) ≥ 0) (.w 12 [(7,(G9 (s.chans.getD n []) ((c.chans.getD n a8).w)).O),(9,.val (dB false)),(13,.val (dB true)),(18,.val (dB true))] <| .b 84 (.e) (.w 10 [(1,.val (i6 ((n + 1 : Nat) : Int)))] <| .e)) (.w 12 [(7,(G9 (s.chans.getD n []) ((c.chans.getD n a8).w)).O),(9,.val (dB false)),(13,.val (dB true)),(18,.val (dB false))] <| .w 10 [(1,.val (i6 ((n + 1 : Nat) : Int)))] <| .e)) (.w 12 [(7,(G9 (s.chans.getD n []) ((c.chans.getD n a8).w)).O),(9,.val (dB false)),(13,.val (dB false))] <| .w 10 [(1,.val (i6 ((n + 1 : Nat) : Int)))] <| .e)) (.w 12 [(7,(G9 (s.chans.getD n []) ((c.chans.getD n a8).w)).O),(9,.val (dB true))] <| .e)) (.e)))))) (.w 1 [(7,.val (dB true))] <| .e)) Tryz.func24 rfl rfl rfl (by kernel_rfl) ?_
 refine tt ⟨fun hs0 => ?_,fun hs0 => ?_⟩
 · refine tt ⟨(nF hs0),tt (cn (fun hc23 => ?_) (fun hc23 => ?_))⟩
   · refine tt ⟨?_,oK⟩
     first | exact (qr (by omega)).symm | exact (qs (by omega)).symm | exact (qt (i := i) (by omega) (by simpa using hc42)).symm | exact (f6 (n := n) (by omega) (jc (by assumption))).symm | exact (f6 (n := n) (by omega) (jd (by show 0 ≤ (c.chans.getD n a8).frm; omega) (by show 0 ≤ (c.chans.getD n a8).dst; omega) (by show ¬((s.chans.getD n []).length : Int) ≤ (c.chans.getD n a8).cap; omega))).symm | exact (qu (by omega) (by omega) (fun z hz => h3 z (by omega)) (fun z hz => h4 z (by omega))).symm
   · refine tt ⟨rfl,⟨by omega,fun z hz => by omega⟩,?_⟩
     intro i hinv
     obtain ⟨hi,h3⟩ := hinv
     refine tt (cd (fun hc28 => ?_) (fun hc28 => ?_))
     · have hpk := hc.pr i (by omega)
       refine tt ⟨ix,tt ⟨ix,tt ⟨(Di (c.procs.getD i ax) (s.procs.getD i bx) hpk),tt ⟨fun hc42 => ?_,fun hc42 => ?_⟩⟩⟩⟩
       · refine tt ⟨?_,oK⟩
         first | exact (qr (by omega)).symm | exact (qs (by omega)).symm | exact (qt (i := i) (by omega) (by simpa using hc42)).symm | exact (f6 (n := n) (by omega) (jc (by assumption))).symm | exact (f6 (n := n) (by omega) (jd (by show 0 ≤ (c.chans.getD n a8).frm; omega) (by show 0 ≤ (c.chans.getD n a8).dst; omega) (by show ¬((s.chans.getD n []).length : Int) ≤ (c.chans.getD n a8).cap; omega))).symm | exact (qu (by omega) (by omega) (fun z hz => h3 z (by omega)) (fun z hz => h4 z (by omega))).symm
       · refine tt ⟨w6,tt ⟨(i + 1),rfl,?_,(?_ : c.procs.length - (i + 1) < c.procs.length - i)⟩⟩
         · exact ⟨by omega,cK h3 (by simpa using hc42)⟩
         · omega
     · refine tt ⟨rfl,⟨by omega,fun z hz => by omega⟩,?_⟩
       intro n hinv
       obtain ⟨hn,h4⟩ := hinv
       refine tt (cd (fun hc47 => ?_) (fun hc47 => ?_))
       · refine tt ⟨ix,tt ?_⟩
         have hlw : (s.chans.getD n []).length ≤ 9223372036854775807 := hsm n
         refine ⟨fun hs1 => ?_,fun hs1 => ?_⟩
         · refine ⟨fun hs2 => ?_,fun hs2 => ?_⟩
           · refine ⟨fun hs3 => ?_,fun hs3 => ?_⟩
             · refine tt ⟨ix,tt ⟨(jT (s.chans.getD n []) ((c.chans.getD n a8).w) hlw),tt ⟨(mF hs1),tt ⟨(vT hs2),tt ⟨(vT hs3),tt ⟨ix,tt (cd (fun hc84 => ?_) (fun hc84 => ?_))⟩⟩⟩⟩⟩⟩
               · refine tt ⟨?_,oK⟩
                 first | exact (qr (by omega)).symm | exact (qs (by omega)).symm | exact (qt (i := i) (by omega) (by simpa using hc42)).symm | exact (f6 (n := n) (by omega) (jc (by assumption))).symm | exact (f6 (n := n) (by omega) (jd (by show 0 ≤ (c.chans.getD n a8).frm; omega) (by show 0 ≤ (c.chans.getD n a8).dst; omega) (by show ¬((s.chans.getD n []).length : Int) ≤ (c.chans.getD n a8).cap; omega))).symm | exact (qu (by omega) (by omega) (fun z hz => h3 z (by omega)) (fun z hz => h4 z (by omega))).symm
               · refine tt ⟨w6,tt ⟨(n + 1),rfl,?_,(?_ : c.chans.length - (n + 1) < c.chans.length - n)⟩⟩
                 · refine ⟨by omega,cK h4 ?_⟩
                   first | exact zL (by assumption) (by show ¬0 ≤ (c.chans.getD n a8).frm; omega) | exact zM (by assumption) (by show ¬0 ≤ (c.chans.getD n a8).dst; omega) | exact zN (by assumption) (by show ((s.chans.getD n []).length : Int) ≤ (c.chans.getD n a8).cap; omega)
                 · omega
             · refine tt ⟨ix,tt ⟨(jT (s.chans.getD n []) ((c.chans.getD n a8).w) hlw),tt ⟨(mF hs1),tt ⟨(vT hs2),tt ⟨(vF hs3),tt ⟨w6,tt ⟨(n + 1),rfl,?_,(?_ : c.chans.length - (n + 1) < c.chans.length - n)⟩⟩⟩⟩⟩⟩⟩
               · refine ⟨by omega,cK h4 ?_⟩
                 first | exact zL (by assumption) (by show ¬0 ≤ (c.chans.getD n a8).frm; omega) | exact zM (by assumption) (by show ¬0 ≤ (c.chans.getD n a8).dst; omega) | exact zN (by assumption) (by show ((s.chans.getD n []).length : Int) ≤ (c.chans.getD n a8).cap; omega)
               · omega
           · refine tt ⟨ix,tt ⟨(jT (s.chans.getD n []) ((c.chans.getD n a8).w) hlw),tt ⟨(mF hs1),tt ⟨(vF hs2),tt ⟨w6,tt ⟨(n + 1),rfl,?_,(?_ : c.chans.length - (n + 1) < c.chans.length - n)⟩⟩⟩⟩⟩⟩
             · refine ⟨by omega,cK h4 ?_⟩
               first | exact zL (by assumption) (by show ¬0 ≤ (c.chans.getD n a8).frm; omega) | exact zM (by assumption) (by show ¬0 ≤ (c.chans.getD n a8).dst; omega) | exact zN (by assumption) (by show ((s.chans.getD n []).length : Int) ≤ (c.chans.getD n a8).cap; omega)
             · omega
         · refine tt ⟨ix,tt ⟨(jT (s.chans.getD n []) ((c.chans.getD n a8).w) hlw),tt ⟨(mT hs1),tt ⟨?_,oK⟩⟩⟩⟩
           first | exact (qr (by omega)).symm | exact (qs (by omega)).symm | exact (qt (i := i) (by omega) (by simpa using hc42)).symm | exact (f6 (n := n) (by omega) (jc (by assumption))).symm | exact (f6 (n := n) (by omega) (jd (by show 0 ≤ (c.chans.getD n a8).frm; omega) (by show 0 ≤ (c.chans.getD n a8).dst; omega) (by show ¬((s.chans.getD n []).length : Int) ≤ (c.chans.getD n a8).cap; omega))).symm | exact (qu (by omega) (by omega) (fun z hz => h3 z (by omega)) (fun z hz => h4 z (by omega))).symm
       · refine tt ⟨?_,oK⟩
         first | exact (qr (by omega)).symm | exact (qs (by omega)).symm | exact (qt (i := i) (by omega) (by simpa using hc42)).symm | exact (f6 (n := n) (by omega) (jc (by assumption))).symm | exact (f6 (n := n) (by omega) (jd (by show 0 ≤ (c.chans.getD n a8).frm; omega) (by show 0 ≤ (c.chans.getD n a8).dst; omega) (by show ¬((s.chans.getD n []).length : Int) ≤ (c.chans.getD n a8).cap; omega))).symm | exact (qu (by omega) (by omega) (fun z hz => h3 z (by omega)) (fun z hz => h4 z (by omega))).symm
 · refine tt ⟨(nT hs0),tt ⟨?_,oK⟩⟩
   first | exact (qr (by omega)).symm | exact (qs (by omega)).symm | exact (qt (i := i) (by omega) (by simpa using hc42)).symm | exact (f6 (n := n) (by omega) (jc (by assumption))).symm | exact (f6 (n := n) (by omega) (jd (by show 0 ≤ (c.chans.getD n a8).frm; omega) (by show 0 ≤ (c.chans.getD n a8).dst; omega) (by show ¬((s.chans.getD n []).length : Int) ≤ (c.chans.getD n a8).cap; omega))).symm | exact (qu (by omega) (by omega) (fun z hz => h3 z (by omega)) (fun z hz => h4 z (by omega))).symm
abbrev Lo (c : Ci) : Ct := ⟨52,[(.agg (kq c))],true,(.agg [(dL 2 be bx ((aE c).procs)),(dL 1 ac [] ((aE c).chans))])⟩
abbrev md (c : Ci) : Lp (Nat) := iy [1,2,3,4] 5 (fun (i : Nat) => ⟨[(1,(.ptr 0 0 0 0)),(2,(.ptr 1 0 0 0)),(3,(.ptr 3 0 0 0)),(4,(i6 (i : Int)))],[(.var 38 (kq c)),(.var 42 [.nils,.nils]),(.arr 28 1 ac [] (List.replicate c.chans.length ([] : List Int))),(.var 42 [(.own 4),(.own 2)]),(.arr 112 2 be bx (ao (fun i => aP (bJ c i)) i))]⟩) (fun (i : Nat) => i ≤ c.procs.length) (fun (i : Nat) => c.procs.length - i)
theorem Dm (c : Ci) (hc : a6 c) : CC (Lo c) := by
 have hnl := hc.nl
 have hcl := hc.cl
 refine ah.vc (V := TT 5 ((((0 : Int) ≤ (c.chans.length : Int)∧(c.chans.length : Int) ≤ (c.chans.length : Int)∧(c.chans.length : Int) ≤ 137438953472)∧(List.replicate c.chans.length ([] : List Int)).length = c.chans.length∧∀ x ∈ (List.replicate c.chans.length ([] : List Int)),cO [.nils] (ac x))∧TT 4 (GO (md c) 0 (∀ i,(md c).inv i → TT 5 (CD ((i : Int) < (c.procs.length : Int)) (TT 5 (IX (i : Int) c.procs.length∧TT 1 (CC (Lm (c.procs.getD i ax))∧an [[(LI ((aP (c.procs.getD i ax)).regs)),(dL 1 ac [] ((aP (c.procs.getD i ax)).mems))]] ([(⟨(aP (c.procs.getD i ax)).regs,(aP (c.procs.getD i ax)).mems⟩ : Ps)].map be)∧((ao (fun i => aP (bJ c i)) i).length + ([(⟨(aP (c.procs.getD i ax)).regs,(aP (c.procs.getD i ax)).mems⟩ : Ps)].map be).length ≤ 137438953472∧(ao (fun i => aP (bJ c i)) i).map be ++ [(⟨(aP (c.procs.getD i ax)).regs,(aP (c.procs.getD i ax)).mems⟩ : Ps)].map be = (ao (fun i => aP (bJ c i)) (i + 1)).map be)∧TT 3 (W6 ((i + 1 : Nat) : Int)∧TT 1 (AG (md c) i (i + 1)))))) (TT 3 ((ao (fun i => aP (bJ c i)) i).map be = ((aE c).procs).map be∧(List.replicate c.chans.length ([] : List Int)).map ac = ((aE c).chans).map ac∧True))))))) (.w 1 [(3,.box 28 1 ac [] (List.replicate c.chans.length ([] : List Int)))] <| .g 2 3 0 112 2 be bx <| .l (md c) 0 (fun i => .b 14 (.w 5 [(7,(Lm (c.procs.getD i ax)).O),(8,.box 112 2 be bx [(⟨(aP (c.procs.getD i ax)).regs,(aP (c.procs.getD i ax)).mems⟩ : Ps)]),(9,.box 112 2 be bx (ao (fun i => aP (bJ c i)) (i + 1)))] <| .w 4 [(1,.val (i6 ((i + 1 : Nat) : Int)))] <| .e) (.e))) Tryz.func52 rfl rfl rfl (by kernel_rfl) ?_
 refine tt ⟨⟨by omega,by simp,fun x hx => by rw [List.eq_of_mem_replicate hx]; exact ⟨rfl,oK⟩⟩,tt ⟨rfl,(by omega),?_⟩⟩
 intro i hinv
 have hi := hinv
 refine tt (cd (fun hc14 => ?_) (fun hc14 => ?_))
 · have hpk := hc.pr i (by omega)
   refine tt ⟨ix,tt ⟨(Dj (c.procs.getD i ax) hpk),⟨⟨⟨rfl,rfl,oK⟩,oK⟩,⟨(gw (f := fun i => aP (bJ c i)) (by omega)),tt ⟨w6,tt ⟨(i + 1),rfl,(?_ : (i + 1) ≤ c.procs.length),(?_ : c.procs.length - (i + 1) < c.procs.length - i)⟩⟩⟩⟩⟩⟩
   · omega
   · omega
 · refine tt ⟨(congrArg _ (?_ : (ao (fun i => aP (bJ c i)) i) = ((aE c).procs))),(congrArg _ (?_ : (List.replicate c.chans.length ([] : List Int)) = ((aE c).chans))),oK⟩
   · rw [show i = c.procs.length by omega]; rfl
   · rfl
abbrev Lq (s : Ns) (n : Int) (l : List Int) : Ct := ⟨56,[(.agg (lk s)),(i6 n),(LI l)],true,(.agg [(dL 2 be bx ((fa s n.toNat l).procs)),(dL 1 ac [] ((fa s n.toNat l).chans))])⟩
theorem Ha (s : Ns) (n : Int) (l : List Int) (h1 : 0 ≤ n) (h2 : n < s.chans.length) (h3 : s.chans.length ≤ 1000000) : CC (Lq s n l) := by
 refine ah.vc (V := TT 4 (an [] (([] : List (List Int)).map ac)∧TT 2 ((([] : List (List Int)).length + (s.chans.map ac).length ≤ 137438953472∧([] : List (List Int)).map ac ++ s.chans.map ac = s.chans.map ac)∧TT 7 (IX n s.chans.length∧(n.toNat < s.chans.length∧(s.chans.map ac).set n.toNat ((ac (s.chans.getD n.toNat [])).take 0 ++ [(.sl 1 (ae .i64) 0 l)] ++ (ac (s.chans.getD n.toNat [])).drop (0 + 1)) = (s.chans.set n.toNat l).map ac)∧TT 3 (s.procs.map be = ((fa s n.toNat l).procs).map be∧(s.chans.set n.toNat l).map ac = ((fa s n.toNat l).chans).map ac∧True))))) (.w 1 [(2,.app false 28 1 ac [] ([] : List (List Int))),(5,.app false 28 1 ac [] s.chans)] <| .w 2 [(5,.box 28 1 ac [] (s.chans.set n.toNat l))] <| .e) Tryz.func56 rfl rfl rfl (by kernel_rfl) ?_
 refine tt ⟨oK,tt ⟨⟨by simp only [List.length_map,List.length_cons,List.length_nil,List.length_append,List.length_drop,List.length_take]; first | omega | (simp; first | done | omega),by simp only [List.map_append,List.map_nil,List.append_nil,List.nil_append]⟩,tt ⟨ix,⟨⟨om,by simp only [List.map_set]; rfl⟩,tt ⟨(congrArg _ (?_ : s.procs = ((fa s n.toNat l).procs))),(congrArg _ (?_ : (s.chans.set n.toNat l) = ((fa s n.toNat l).chans))),oK⟩⟩⟩⟩⟩
 all_goals (rfl)
abbrev Lr (c : Ci) (s : Ns) (p : Nat) : Ct := ⟨96,[(.agg (kq c)),(.agg (lk s)),(i6 (p : Int))],true,(.agg [(dL 2 bO aR (ci c s p)),(LB (cS c s p))])⟩
abbrev ll (c : Ci) (s : Ns) (p : Nat) : Lp (Nat) := iy [2,3,4,6,7,8] 5 (fun (i : Nat) => ⟨[(2,(i6 (p : Int))),(3,(.ptr 0 0 0 0)),(4,(.ptr 1 0 0 0)),(6,(.ptr 2 0 0 0)),(7,(.ptr 3 0 0 0)),(8,(i6 (i : Int)))],[(.var 38 (kq c)),(.var 42 (lk s)),(.var 196 [.nils,.nils]),(.var 196 [(.own 4),.nils]),(.arr 182 2 bO aR (ao (bS c s p) i))]⟩) (fun (i : Nat) => i ≤ (c.procs.getD p ax).takes.length) (fun (i : Nat) => (c.procs.getD p ax).takes.length - i)
abbrev lm (c : Ci) (s : Ns) (p : Nat) (i : Nat) : Lp (Nat) := iy [2,3,4,6,7,11] 6 (fun (m : Nat) => ⟨[(2,(i6 (p : Int))),(3,(.ptr 0 0 0 0)),(4,(.ptr 1 0 0 0)),(6,(.ptr 2 0 0 0)),(7,(.ptr 3 0 0 0)),(11,(i6 (m : Int)))],[(.var 38 (kq c)),(.var 42 (lk s)),(.var 196 [.nils,.nils]),(.var 196 [(.own 4),(.own 5)]),(.arr 182 2 bO aR (ao (bS c s p) i)),(.arr 4 1 aO false (ao (bU c s p) m))]⟩) (fun (m : Nat) => m ≤ (c.procs.getD p ax).puts.length) (fun (m : Nat) => (c.procs.getD p ax).puts.length - m)
theorem FJ (c : Ci) (s : Ns) (p : Nat) (hc : a6 c) (hs : bH c s) (hp : p < c.procs.length) : CC (Lr c s p) := by
 have hnl := hc.nl
 have hcl := hc.cl
 have hpk : fL (c.procs.getD p ax) := hc.pr p hp
 have hl1 := hs.pl
 have hl2 := hs.cl
 have ht1 : (c.procs.getD p ax).takes.length ≤ 100 := hpk.tl
 have ht2 : (c.procs.getD p ax).puts.length ≤ 100 := hpk.pl
 refine ah.vc (V := TT 7 (GO (ll c s p) 0 (∀ i,(ll c s p).inv i → TT 4 (IX (p : Int) c.procs.length∧TT 4 (CD ((i : Int) < ((((c.procs.getD p ax).takes).length : Nat) : Int)) (TT 5 (IX (p : Int) c.procs.length∧TT 3 (IX (i : Int) (((c.procs.getD p ax).takes).length)∧TT 2 (IX ((((c.procs.getD p ax).takes).getD i bK).chan) s.chans.length∧TT 8 (CD ((((s.chans.getD (((((c.procs.getD p ax).takes).getD i bK).chan).toNat) []).length : Nat) : Int) > 0) (TT 1 (IX 0 ((s.chans.getD (((((c.procs.getD p ax).takes).getD i bK).chan).toNat) []).length)∧TT 6 (an [[(dB true),(i6 ((s.chans.getD (((((c.procs.getD p ax).takes).getD i bK).chan).toNat) []).getD 0 0))]] ([(⟨true,((s.chans.getD (((((c.procs.getD p ax).takes).getD i bK).chan).toNat) []).getD 0 0)⟩ : Hd)].map bO)∧((ao (bS c s p) i).length + ([(⟨true,((s.chans.getD (((((c.procs.getD p ax).takes).getD i bK).chan).toNat) []).getD 0 0)⟩ : Hd)].map bO).length ≤ 137438953472∧(ao (bS c s p) i).map bO ++ [(⟨true,((s.chans.getD (((((c.procs.getD p ax).takes).getD i bK).chan).toNat) []).getD 0 0)⟩ : Hd)].map bO = (ao (bS c s p) (i + 1)).map bO)∧TT 3 (W6 ((i + 1 : Nat) : Int)∧TT 1 (AG (ll c s p) i (i + 1)))))) (TT 3 (an [[(dB false),(i6 0)]] ([(⟨false,0⟩ : Hd)].map bO)∧((ao (bS c s p) i).length + ([(⟨false,0⟩ : Hd)].map bO).length ≤ 137438953472∧(ao (bS c s p) i).map bO ++ [(⟨false,0⟩ : Hd)].map bO = (ao (bS c s p) (i + 1)).map bO)∧TT 3 (W6 ((i + 1 : Nat) : Int)∧TT 1 (AG (ll c s p) i (i + 1)))))))))) (TT 1 (GO (lm c s p i) 0 (∀ m,(lm c s p i).inv m → TT 4 (IX (p : Int) c.procs.length∧TT 4 (CD ((m : Int) < ((((c.procs.getD p ax).puts).length : Nat) : Int)) (TT 3 (IX (p : Int) c.procs.length∧TT 3 (IX (m : Int) (((c.procs.getD p ax).puts).length)∧TT 3 (CS (((c.chans.getD (((((c.procs.getD p ax).puts).getD m bn).chan).toNat) a8).dst) = (-1)) (TT 5 (IX ((((c.procs.getD p ax).puts).getD m bn).chan) c.chans.length∧TT 3 ((True∧(decide (((c.chans.getD (((((c.procs.getD p ax).puts).getD m bn).chan).toNat) a8).dst) = (-1))) = true)∧TT 1 (an [[(dB true)]] ([true].map aO)∧((ao (bU c s p) m).length + ([true].map aO).length ≤ 137438953472∧(ao (bU c s p) m).map aO ++ [true].map aO = (ao (bU c s p) (m + 1)).map aO)∧TT 3 (W6 ((m + 1 : Nat) : Int)∧TT 1 (AG (lm c s p i) m (m + 1))))))) (TT 5 (IX ((((c.procs.getD p ax).puts).getD m bn).chan) c.chans.length∧TT 3 ((True∧(decide (((c.chans.getD (((((c.procs.getD p ax).puts).getD m bn).chan).toNat) a8).dst) = (-1))) = false)∧TT 3 (IX ((((c.procs.getD p ax).puts).getD m bn).chan) s.chans.length∧TT 5 (IX ((((c.procs.getD p ax).puts).getD m bn).chan) c.chans.length∧TT 4 (an [[(dB (decide ((((s.chans.getD (((((c.procs.getD p ax).puts).getD m bn).chan).toNat) []).length : Nat) : Int) < ((c.chans.getD (((((c.procs.getD p ax).puts).getD m bn).chan).toNat) a8).cap))))]] ([decide ((((s.chans.getD (((((c.procs.getD p ax).puts).getD m bn).chan).toNat) []).length : Nat) : Int) < ((c.chans.getD (((((c.procs.getD p ax).puts).getD m bn).chan).toNat) a8).cap))].map aO)∧((ao (bU c s p) m).length + ([decide ((((s.chans.getD (((((c.procs.getD p ax).puts).getD m bn).chan).toNat) []).length : Nat) : Int) < ((c.chans.getD (((((c.procs.getD p ax).puts).getD m bn).chan).toNat) a8).cap))].map aO).length ≤ 137438953472∧(ao (bU c s p) m).map aO ++ [decide ((((s.chans.getD (((((c.procs.getD p ax).puts).getD m bn).chan).toNat) []).length : Nat) : Int) < ((c.chans.getD (((((c.procs.getD p ax).puts).getD m bn).chan).toNat) a8).cap))].map aO = (ao (bU c s p) (m + 1)).map aO)∧TT 3 (W6 ((m + 1 : Nat) : Int)∧TT 1 (AG (lm c s p i) m (m + 1))))))))))))) (TT 3 ((ao (bS c s p) i).map bO = (ci c s p).map bO∧(ao (bU c s p) m).map aO = (cS c s p).map aO∧True)))))))))))) (.g 2 3 0 182 2 bO aR <| .l (ll c s p) 0 (fun i => .b 22 (.b 42 (.w 9 [(3,.box 182 2 bO aR [(⟨true,((s.chans.getD (((((c.procs.getD p ax).takes).getD i bK).chan).toNat) []).getD 0 0)⟩ : Hd)]),(4,.box 182 2 bO aR (ao (bS c s p) (i + 1)))] <| .w 4 [(1,.val (i6 ((i + 1 : Nat) : Int)))] <| .e) (.w 9 [(3,.box 182 2 bO aR [(⟨false,0⟩ : Hd)]),(4,.box 182 2 bO aR (ao (bS c s p) (i + 1)))] <| .w 4 [(1,.val (i6 ((i + 1 : Nat) : Int)))] <| .e)) (.g 10 3 1 4 1 aO false <| .l (lm c s p i) 0 (fun m => .b 61 (.s 14 (((c.chans.getD (((((c.procs.getD p ax).puts).getD m bn).chan).toNat) a8).dst) = (-1)) (.w 14 [(9,.val (dB true)),(24,.box 4 1 aO false [true]),(25,.box 4 1 aO false (ao (bU c s p) (m + 1)))] <| .w 12 [(1,.val (i6 ((m + 1 : Nat) : Int)))] <| .e) (.w 14 [(9,.val (dB false)),(24,.box 4 1 aO false [decide ((((s.chans.getD (((((c.procs.getD p ax).puts).getD m bn).chan).toNat) []).length : Nat) : Int) < ((c.chans.getD (((((c.procs.getD p ax).puts).getD m bn).chan).toNat) a8).cap))]),(25,.box 4 1 aO false (ao (bU c s p) (m + 1)))] <| .w 12 [(1,.val (i6 ((m + 1 : Nat) : Int)))] <| .e)) (.e))))) Tryz.func96 rfl rfl rfl (by kernel_rfl) ?_
 refine tt ⟨rfl,(by omega),?_⟩
 intro i hinv
 have hi := hinv
 refine tt ⟨ix,tt (cd (fun hc22 => ?_) (fun hc22 => ?_))⟩
 · have htk : 0 ≤ ((c.procs.getD p ax).takes.getD i bK).chan∧((c.procs.getD p ax).takes.getD i bK).chan < c.chans.length := ⟨(hc.tk p hp i (show i < (c.procs.getD p ax).takes.length by omega)).1,(hc.tk p hp i (show i < (c.procs.getD p ax).takes.length by omega)).2.1⟩
   refine tt ⟨ix,tt ⟨ix,tt ⟨ix,tt (cd (fun hc42 => ?_) (fun hc42 => ?_))⟩⟩⟩
   · refine tt ⟨ix,tt ⟨⟨⟨rfl,rfl,oK⟩,oK⟩,⟨(bp (by omega) (by first | exact (if_pos (show 0 < (s.chans.getD ((c.procs.getD p ax).takes.getD i bK).chan.toNat []).length by omega)).symm | exact (if_neg (show ¬0 < (s.chans.getD ((c.procs.getD p ax).takes.getD i bK).chan.toNat []).length by omega)).symm)),tt ⟨w6,tt ⟨(i + 1),rfl,(?_ : (i + 1) ≤ (c.procs.getD p ax).takes.length),(?_ : (c.procs.getD p ax).takes.length - (i + 1) < (c.procs.getD p ax).takes.length - i)⟩⟩⟩⟩⟩
     · omega
     · omega
   · refine tt ⟨⟨⟨rfl,rfl,oK⟩,oK⟩,⟨(bp (by omega) (by first | exact (if_pos (show 0 < (s.chans.getD ((c.procs.getD p ax).takes.getD i bK).chan.toNat []).length by omega)).symm | exact (if_neg (show ¬0 < (s.chans.getD ((c.procs.getD p ax).takes.getD i bK).chan.toNat []).length by omega)).symm)),tt ⟨w6,tt ⟨(i + 1),rfl,(?_ : (i + 1) ≤ (c.procs.getD p ax).takes.length),(?_ : (c.procs.getD p ax).takes.length - (i + 1) < (c.procs.getD p ax).takes.length - i)⟩⟩⟩⟩
     · omega
     · omega
 · refine tt ⟨rfl,(by omega),?_⟩
   intro m hinv
   have hm := hinv
   refine tt ⟨ix,tt (cd (fun hc61 => ?_) (fun hc61 => ?_))⟩
   · have hpt : 0 ≤ ((c.procs.getD p ax).puts.getD m bn).chan∧((c.procs.getD p ax).puts.getD m bn).chan < c.chans.length := ⟨(hc.pt p hp m (show m < (c.procs.getD p ax).puts.length by omega)).1,(hc.pt p hp m (show m < (c.procs.getD p ax).puts.length by omega)).2.1⟩
     refine tt ⟨ix,tt ⟨ix,tt ⟨fun hs0 => ?_,fun hs0 => ?_⟩⟩⟩
     · refine tt ⟨ix,tt ⟨(vT hs0),tt ⟨⟨⟨rfl,oK⟩,oK⟩,⟨(bp (by omega) (by first | exact (wQ hs0).symm | exact (kW hs0).symm | exact (kW hs1).symm)),tt ⟨w6,tt ⟨(m + 1),rfl,(?_ : (m + 1) ≤ (c.procs.getD p ax).puts.length),(?_ : (c.procs.getD p ax).puts.length - (m + 1) < (c.procs.getD p ax).puts.length - m)⟩⟩⟩⟩⟩⟩
       · omega
       · omega
     · refine tt ⟨ix,tt ⟨(vF hs0),tt ⟨ix,tt ⟨ix,tt ⟨⟨⟨rfl,oK⟩,oK⟩,⟨(bp (by omega) (by first | exact (wQ hs0).symm | exact (kW hs0).symm | exact (kW hs1).symm)),tt ⟨w6,tt ⟨(m + 1),rfl,(?_ : (m + 1) ≤ (c.procs.getD p ax).puts.length),(?_ : (c.procs.getD p ax).puts.length - (m + 1) < (c.procs.getD p ax).puts.length - m)⟩⟩⟩⟩⟩⟩⟩⟩
       · omega
       · omega
   · refine tt ⟨(congrArg _ (?_ : (ao (bS c s p) i) = (ci c s p))),(congrArg _ (?_ : (ao (bU c s p) m) = (cS c s p))),oK⟩
     · rw [show i = (c.procs.getD p ax).takes.length by omega]; rfl
     · rw [show m = (c.procs.getD p ax).puts.length by omega]; rfl
abbrev J5 (c : Ci) (s : Ns) (p : Nat) : Ct := ⟨82,[(.agg (kq c)),(.agg (lk s)),(i6 (p : Int))],true,(.agg [(dB ((ab c s p).fires)),(LI (((ab c s p).s).regs)),(dL 1 ac [] (((ab c s p).s).mems)),(LB ((ab c s p).pops)),(dL 2 bO aR ((ab c s p).puts))])⟩
theorem vD (c : Ci) (s : Ns) (p : Nat) (hc : a6 c) (hs : bH c s) (hp : p < c.procs.length) : CC (J5 c s p) := by
 have hnl := hc.nl
 have hcl := hc.cl
 have hpk : fL (c.procs.getD p ax) := hc.pr p hp
 have hl1 := hs.pl
 have hl2 := hs.cl
 have ht1 : (c.procs.getD p ax).takes.length ≤ 100 := hpk.tl
 have ht2 : (c.procs.getD p ax).puts.length ≤ 100 := hpk.pl
 refine ah.vc (V := TT 6 (IX (p : Int) c.procs.length∧TT 4 (IX (p : Int) s.procs.length∧TT 4 (CC (Lr c s p)∧CC (Ln (c.procs.getD p ax) (s.procs.getD p bx) (ci c s p) (cS c s p))∧TT 2 (((aK (c.procs.getD p ax) (s.procs.getD p bx) (ci c s p) (cS c s p)).fires) = ((ab c s p).fires)∧(((aK (c.procs.getD p ax) (s.procs.getD p bx) (ci c s p) (cS c s p)).s).regs).map (ae .i64) = (((ab c s p).s).regs).map (ae .i64)∧(((aK (c.procs.getD p ax) (s.procs.getD p bx) (ci c s p) (cS c s p)).s).mems).map ac = (((ab c s p).s).mems).map ac∧((aK (c.procs.getD p ax) (s.procs.getD p bx) (ci c s p) (cS c s p)).pops).map aO = ((ab c s p).pops).map aO∧((aK (c.procs.getD p ax) (s.procs.getD p bx) (ci c s p) (cS c s p)).puts).map bO = ((ab c s p).puts).map bO∧True))))) (.w 1 [(13,(Lr c s p).O),(14,(Ln (c.procs.getD p ax) (s.procs.getD p bx) (ci c s p) (cS c s p)).O)] <| .e) Tryz.func82 rfl rfl rfl (by kernel_rfl) ?_
 refine tt ⟨ix,tt ⟨ix,tt ⟨(FJ c s p hc hs hp),⟨(Dk (c.procs.getD p ax) (s.procs.getD p bx) (ci c s p) (cS c s p) hpk (hs.pv p hp) (oU hc hs hp) (by rw [cS,aJ])),tt ⟨?_,(congrArg _ (?_ : (((aK (c.procs.getD p ax) (s.procs.getD p bx) (ci c s p) (cS c s p)).s).regs) = (((ab c s p).s).regs))),(congrArg _ (?_ : (((aK (c.procs.getD p ax) (s.procs.getD p bx) (ci c s p) (cS c s p)).s).mems) = (((ab c s p).s).mems))),(congrArg _ (?_ : ((aK (c.procs.getD p ax) (s.procs.getD p bx) (ci c s p) (cS c s p)).pops) = ((ab c s p).pops))),(congrArg _ (?_ : ((aK (c.procs.getD p ax) (s.procs.getD p bx) (ci c s p) (cS c s p)).puts) = ((ab c s p).puts))),oK⟩⟩⟩⟩⟩
 all_goals (rfl)
abbrev J6 (c : Ci) (s : Ns) (p : Int) : Ct := ⟨69,[(.agg (kq c)),(.agg (lk s)),(i6 p)],false,(dB (gz c s p))⟩
theorem BO (c : Ci) (s : Ns) (p : Int) (hc : a6 c) (hs : bH c s) : CC (J6 c s p) := by
 have hnl := hc.nl
 have hcl := hc.cl
 refine ah.vc (V := TT 3 (CS (p ≥ 0) (CS (p < (c.procs.length : Int)) (TT 2 ((True∧(decide (p ≥ 0)) = true)∧TT 6 ((True∧(decide (p < (c.procs.length : Int))) = true)∧TT 2 ((True∧p = (p.toNat : Int))∧CC (J5 c s p.toNat)∧TT 4 (((ab c s p.toNat).fires) = (gz c s p)∧True))))) (TT 2 ((True∧(decide (p ≥ 0)) = true)∧TT 6 ((True∧(decide (p < (c.procs.length : Int))) = false)∧TT 8 (false = (gz c s p)∧True))))) (TT 2 ((True∧(decide (p ≥ 0)) = false)∧TT 15 (false = (gz c s p)∧True))))) (.s 1 (p ≥ 0) (.s 1 (p < (c.procs.length : Int)) (.w 1 [(2,.val (dB true)),(9,.val (dB true)),(12,.val (i6 (p.toNat : Int))),(13,(J5 c s p.toNat).O)] <| .e) (.w 1 [(2,.val (dB true)),(9,.val (dB false))] <| .e)) (.w 1 [(2,.val (dB false))] <| .e)) Tryz.func69 rfl rfl rfl (by kernel_rfl) ?_
 refine tt ⟨fun hs0 => ?_,fun hs0 => ?_⟩
 · refine ⟨fun hs1 => ?_,fun hs1 => ?_⟩
   · refine tt ⟨(vT hs0),tt ⟨(vT hs1),tt ⟨⟨oK,(by omega)⟩,⟨(vD c s p.toNat hc hs (by omega)),tt ⟨?_,oK⟩⟩⟩⟩⟩
     first | exact (tq (by omega)).symm | exact (tr (by omega)).symm | exact (rO (by omega) (by omega)).symm
   · refine tt ⟨(vT hs0),tt ⟨(vF hs1),tt ⟨?_,oK⟩⟩⟩
     first | exact (tq (by omega)).symm | exact (tr (by omega)).symm | exact (rO (by omega) (by omega)).symm
 · refine tt ⟨(vF hs0),tt ⟨?_,oK⟩⟩
   first | exact (tq (by omega)).symm | exact (tr (by omega)).symm | exact (rO (by omega) (by omega)).symm
abbrev J7 (c : Ci) (s : Ns) : Ct := ⟨47,[(.agg (kq c)),(.agg (lk s))],false,(i6 (aV c s))⟩
abbrev me (c : Ci) (s : Ns) : Lp (Nat) := iy [2,3,5] 2 (fun (p : Nat) => ⟨[(2,(.ptr 0 0 0 0)),(3,(.ptr 1 0 0 0)),(5,(i6 (p : Int)))],[(.var 38 (kq c)),(.var 42 (lk s))]⟩) (fun (p : Nat) => p ≤ c.procs.length∧fo c s (c.procs.length - p) p = aV c s) (fun (p : Nat) => c.procs.length - p)
theorem vE (c : Ci) (s : Ns) (hc : a6 c) (hs : bH c s) : CC (J7 c s) := by
 have hnl := hc.nl
 have hcl := hc.cl
 refine ah.vc (V := TT 4 (GO (me c s) 0 (∀ p,(me c s).inv p → TT 5 (CD ((p : Int) < (c.procs.length : Int)) (TT 3 (CC (J6 c s (p : Int))∧CB (gz c s (p : Int)) (TT 3 ((p : Int) = (aV c s)∧True)) (TT 1 (W6 ((p + 1 : Nat) : Int)∧TT 1 (AG (me c s) p (p + 1)))))) (TT 2 ((-1) = (aV c s)∧True)))))) (.l (me c s) 0 (fun p => .b 10 (.w 4 [(3,(J6 c s (p : Int)).O)] <| .b 16 (.e) (.w 3 [(1,.val (i6 ((p + 1 : Nat) : Int)))] <| .e)) (.e))) Tryz.func47 rfl rfl rfl (by kernel_rfl) ?_
 refine tt ⟨rfl,⟨by omega,rfl⟩,?_⟩
 intro p hinv
 obtain ⟨hp,hfk⟩ := hinv
 refine tt (cd (fun hc10 => ?_) (fun hc10 => ?_))
 · refine tt ⟨(BO c s (p : Int) hc hs),⟨fun hc16 => ?_,fun hc16 => ?_⟩⟩
   · refine tt ⟨?_,oK⟩
     rw [← hfk]; first | exact (th (by omega) (by rw [← wU (by omega)]; exact hc16)).symm | exact (ti (by omega)).symm
   · refine tt ⟨w6,tt ⟨(p + 1),rfl,?_,(?_ : c.procs.length - (p + 1) < c.procs.length - p)⟩⟩
     · exact ⟨by omega,by rw [← hfk]; exact (CW (by omega) (by rw [← wU (by omega),hc16]; simp)).symm⟩
     · omega
 · refine tt ⟨?_,oK⟩
   rw [← hfk]; first | exact (th (by omega) (by rw [← wU (by omega)]; exact hc16)).symm | exact (ti (by omega)).symm
end Go.Proofs.YtgmpoenfoacofaaGreat
