/-
  The reference of package network: states, words, single processes.
-/
import Derived.Test.YtgmpoenfoacofaaGreatQNeJ
import Derived.Test.YtgmpoenfoacofaaGreatQNeK
import Derived.Test.YtgmpoenfoacofaaGreatQPrD
namespace Go.Proofs.YtgmpoenfoacofaaGreat
open Go.RowKit
set_option linter.unusedVariables false
set_option linter.unusedSimpArgs false
abbrev mz (c : Ci) : List D := [(dL 6 ep ax c.procs),(dL 5 ez aX c.chans)]
abbrev oC (s : Ns) : List D := [(dL 2 aY ba s.procs),(dL 1 ac [] s.chans)]
set_option maxRecDepth 100000
abbrev Hq (l : List Int) (w : Int) : Ct := ⟨46,[(LI l),(i6 w)],false,(dB (cA l w))⟩
abbrev k9 (l : List Int) (w : Int) : Lp (Nat) := fG [0,1,5] 0 (fun (i : Nat) => ⟨[(0,(LI l)),(1,(i6 w)),(5,(i6 (i : Int)))],[]⟩) (fun (i : Nat) => i ≤ l.length∧∀ z,z < i → cT (l.getD z 0) w = true) (fun (i : Nat) => l.length - i)
theorem i5 (l : List Int) (w : Int) (hl : l.length ≤ 9223372036854775807) : CC (Hq l w) := by
 refine af.vc (V := TT 2 (GO (k9 l w) 0 (∀ i,(k9 l w).inv i → TT 4 (CD ((i : Int) < (l.length : Int)) (CS ((l.getD i 0) < 0) (TT 2 (IX (i : Int) l.length∧TT 2 ((True∧(decide ((l.getD i 0) < 0)) = true)∧TT 3 (false = (cA l w)∧True)))) (TT 2 (IX (i : Int) l.length∧TT 2 ((True∧(decide ((l.getD i 0) < 0)) = false)∧TT 2 (IX (i : Int) l.length∧TT 2 (CC (BX w)∧TT 2 (CD ((l.getD i 0) > (ah w)) (TT 2 (false = (cA l w)∧True)) (TT 1 (W6 ((i + 1 : Nat) : Int)∧TT 1 (AG (k9 l w) i (i + 1))))))))))) (TT 2 (true = (cA l w)∧True)))))) (.l (k9 l w) 0 (fun i => .b 9 (.s 4 ((l.getD i 0) < 0) (.w 4 [(5,.val (dB true))] <| .e) (.w 4 [(5,.val (dB false)),(11,(BX w).O)] <| .b 25 (.e) (.w 3 [(1,.val (i6 ((i + 1 : Nat) : Int)))] <| .e))) (.e))) Tryz.func46 rfl rfl rfl (by kernel_rfl) ?_
 refine tt ⟨rfl,⟨by omega,fun z hz => by omega⟩,?_⟩
 intro i hinv
 obtain ⟨hi,h3⟩ := hinv
 refine tt (cd (fun hc9 => ?_) (fun hc9 => ?_))
 · refine ⟨fun hs0 => ?_,fun hs0 => ?_⟩
   · refine tt ⟨ix,tt ⟨(vT hs0),tt ⟨?_,oK⟩⟩⟩
     first | exact (nh (i := i) (by omega) (yP hs0)).symm | exact (nh (i := i) (by omega) (yQ hc25)).symm | exact (vA (fun z hz => h3 z (by omega))).symm
   · refine tt ⟨ix,tt ⟨(vF hs0),tt ⟨ix,tt ⟨(i3 w),tt (cd (fun hc25 => ?_) (fun hc25 => ?_))⟩⟩⟩⟩
     · refine tt ⟨?_,oK⟩
       first | exact (nh (i := i) (by omega) (yP hs0)).symm | exact (nh (i := i) (by omega) (yQ hc25)).symm | exact (vA (fun z hz => h3 z (by omega))).symm
     · refine tt ⟨w6,tt ⟨(i + 1),rfl,?_,(?_ : l.length - (i + 1) < l.length - i)⟩⟩
       · exact ⟨by omega,br h3 (IP hs0 hc25)⟩
       · omega
 · refine tt ⟨?_,oK⟩
   first | exact (nh (i := i) (by omega) (yP hs0)).symm | exact (nh (i := i) (by omega) (yQ hc25)).symm | exact (vA (fun z hz => h3 z (by omega))).symm
abbrev Fc (c : Ci) (s : Ns) : Ct := ⟨24,[(.agg (mz c)),(.agg (oC s))],false,(dB (bQ c s))⟩
abbrev ld (c : Ci) (s : Ns) : Lp (Nat) := fG [2,3,5] 2 (fun (i : Nat) => ⟨[(2,(.ptr 0 0 0 0)),(3,(.ptr 1 0 0 0)),(5,(i6 (i : Int)))],[(.var 38 (mz c)),(.var 42 (oC s))]⟩) (fun (i : Nat) => i ≤ c.procs.length∧∀ z,z < i → bW (bH c z) (zg s z) = true) (fun (i : Nat) => c.procs.length - i)
abbrev fW (c : Ci) (s : Ns) : Lp (Nat) := fG [2,3,6] 2 (fun (n : Nat) => ⟨[(2,(.ptr 0 0 0 0)),(3,(.ptr 1 0 0 0)),(6,(i6 (n : Int)))],[(.var 38 (mz c)),(.var 42 (oC s))]⟩) (fun (n : Nat) => n ≤ c.chans.length∧∀ z,z < n → iP c s z = true) (fun (n : Nat) => c.chans.length - n)
theorem fY (c : Ci) (s : Ns) (hc : bo c) (hsm : ga s 9223372036854775807) : CC (Fc c s) := by
 have hnl := hc.nl
 have hcl := hc.cl
 refine af.vc (V := TT 3 (CS ((s.procs.length : Int) = (c.procs.length : Int)) (TT 7 ((True∧(!decide ((s.procs.length : Int) = (c.procs.length : Int))) = false)∧TT 8 (CN ((s.chans.length : Int) = (c.chans.length : Int)) (TT 2 (false = (bQ c s)∧True)) (TT 1 (GO (ld c s) 0 (∀ i,(ld c s).inv i → TT 5 (CD ((i : Int) < (c.procs.length : Int)) (TT 3 (IX (i : Int) c.procs.length∧TT 4 (IX (i : Int) s.procs.length∧TT 1 (CC (Np (c.procs.getD i ax) (s.procs.getD i ba))∧TT 1 (CB (!(bW (c.procs.getD i ax) (s.procs.getD i ba))) (TT 2 (false = (bQ c s)∧True)) (TT 1 (W6 ((i + 1 : Nat) : Int)∧TT 1 (AG (ld c s) i (i + 1))))))))) (TT 1 (GO (fW c s) 0 (∀ n,(fW c s).inv n → TT 5 (CD ((n : Int) < (c.chans.length : Int)) (TT 3 (IX (n : Int) c.chans.length∧TT 3 (CS ((cA (s.chans.getD n []) ((c.chans.getD n aX).w)) = true) (CS (((c.chans.getD n aX).frm) ≥ 0) (CS (((c.chans.getD n aX).dst) ≥ 0) (TT 3 (IX (n : Int) s.chans.length∧TT 3 (CC (Hq (s.chans.getD n []) ((c.chans.getD n aX).w))∧TT 1 ((True∧(!(cA (s.chans.getD n []) ((c.chans.getD n aX).w))) = false)∧TT 3 ((True∧(decide (((c.chans.getD n aX).frm) ≥ 0)) = true)∧TT 4 ((True∧(decide (((c.chans.getD n aX).dst) ≥ 0)) = true)∧TT 3 (IX (n : Int) s.chans.length∧TT 7 (CD ((((s.chans.getD n []).length : Nat) : Int) > ((c.chans.getD n aX).cap)) (TT 2 (false = (bQ c s)∧True)) (TT 1 (W6 ((n + 1 : Nat) : Int)∧TT 1 (AG (fW c s) n (n + 1)))))))))))) (TT 3 (IX (n : Int) s.chans.length∧TT 3 (CC (Hq (s.chans.getD n []) ((c.chans.getD n aX).w))∧TT 1 ((True∧(!(cA (s.chans.getD n []) ((c.chans.getD n aX).w))) = false)∧TT 3 ((True∧(decide (((c.chans.getD n aX).frm) ≥ 0)) = true)∧TT 4 ((True∧(decide (((c.chans.getD n aX).dst) ≥ 0)) = false)∧TT 3 (W6 ((n + 1 : Nat) : Int)∧TT 1 (AG (fW c s) n (n + 1)))))))))) (TT 3 (IX (n : Int) s.chans.length∧TT 3 (CC (Hq (s.chans.getD n []) ((c.chans.getD n aX).w))∧TT 1 ((True∧(!(cA (s.chans.getD n []) ((c.chans.getD n aX).w))) = false)∧TT 3 ((True∧(decide (((c.chans.getD n aX).frm) ≥ 0)) = false)∧TT 5 (W6 ((n + 1 : Nat) : Int)∧TT 1 (AG (fW c s) n (n + 1))))))))) (TT 3 (IX (n : Int) s.chans.length∧TT 3 (CC (Hq (s.chans.getD n []) ((c.chans.getD n aX).w))∧TT 1 ((True∧(!(cA (s.chans.getD n []) ((c.chans.getD n aX).w))) = true)∧TT 3 (false = (bQ c s)∧True)))))))) (TT 2 (true = (bQ c s)∧True))))))))))))) (TT 7 ((True∧(!decide ((s.procs.length : Int) = (c.procs.length : Int))) = true)∧TT 10 (false = (bQ c s)∧True))))) (.s 1 ((s.procs.length : Int) = (c.procs.length : Int)) (.w 1 [(7,.val (dB false))] <| .b 23 (.e) (.l (ld c s) 0 (fun i => .b 28 (.w 6 [(10,(Np (c.procs.getD i ax) (s.procs.getD i ba)).O)] <| .b 42 (.e) (.w 5 [(1,.val (i6 ((i + 1 : Nat) : Int)))] <| .e)) (.l (fW c s) 0 (fun n => .b 47 (.s 12 ((cA (s.chans.getD n []) ((c.chans.getD n aX).w)) = true) (.s 12 (((c.chans.getD n aX).frm) ≥ 0) (.s 12 (((c.chans.getD n aX).dst) ≥ 0) (.w 12 [(7,(Hq (s.chans.getD n []) ((c.chans.getD n aX).w)).O),(9,.val (dB false)),(13,.val (dB true)),(18,.val (dB true))] <| .b 84 (.e) (.w 10 [(1,.val (i6 ((n + 1 : Nat) : Int)))] <| .e)) (.w 12 [(7,(Hq (s.chans.getD n []) ((c.chans.getD n aX).w)).O),(9,.val (dB false)),(13,.val (dB true)),(18,.val (dB false))] <| .w 10 [(1,.val (i6 ((n + 1 : Nat) : Int)))] <| .e)) (.w 12 [(7,(Hq (s.chans.getD n []) ((c.chans.getD n aX).w)).O),(9,.val (dB false)),(13,.val (dB false))] <| .w 10 [(1,.val (i6 ((n + 1 : Nat) : Int)))] <| .e)) (.w 12 [(7,(Hq (s.chans.getD n []) ((c.chans.getD n aX).w)).O),(9,.val (dB true))] <| .e)) (.e)))))) (.w 1 [(7,.val (dB true))] <| .e)) Tryz.func24 rfl rfl rfl (by kernel_rfl) ?_
 refine tt ⟨fun hs0 => ?_,fun hs0 => ?_⟩
 · refine tt ⟨(nF hs0),tt (cn (fun hc23 => ?_) (fun hc23 => ?_))⟩
   · refine tt ⟨?_,oK⟩
     first | exact (rS (by omega)).symm | exact (rT (by omega)).symm | exact (rU (i := i) (by omega) (by simpa using hc42)).symm | exact (gM (n := n) (by omega) (j6 (by assumption))).symm | exact (gM (n := n) (by omega) (j7 (by show 0 ≤ (c.chans.getD n aX).frm; omega) (by show 0 ≤ (c.chans.getD n aX).dst; omega) (by show ¬((s.chans.getD n []).length : Int) ≤ (c.chans.getD n aX).cap; omega))).symm | exact (rV (by omega) (by omega) (fun z hz => h3 z (by omega)) (fun z hz => h4 z (by omega))).symm
   · refine tt ⟨rfl,⟨by omega,fun z hz => by omega⟩,?_⟩
     intro i hinv
     obtain ⟨hi,h3⟩ := hinv
     refine tt (cd (fun hc28 => ?_) (fun hc28 => ?_))
     · have hpk := hc.pr i (by omega)
       refine tt ⟨ix,tt ⟨ix,tt ⟨(E8 (c.procs.getD i ax) (s.procs.getD i ba) hpk),tt ⟨fun hc42 => ?_,fun hc42 => ?_⟩⟩⟩⟩
       · refine tt ⟨?_,oK⟩
         first | exact (rS (by omega)).symm | exact (rT (by omega)).symm | exact (rU (i := i) (by omega) (by simpa using hc42)).symm | exact (gM (n := n) (by omega) (j6 (by assumption))).symm | exact (gM (n := n) (by omega) (j7 (by show 0 ≤ (c.chans.getD n aX).frm; omega) (by show 0 ≤ (c.chans.getD n aX).dst; omega) (by show ¬((s.chans.getD n []).length : Int) ≤ (c.chans.getD n aX).cap; omega))).symm | exact (rV (by omega) (by omega) (fun z hz => h3 z (by omega)) (fun z hz => h4 z (by omega))).symm
       · refine tt ⟨w6,tt ⟨(i + 1),rfl,?_,(?_ : c.procs.length - (i + 1) < c.procs.length - i)⟩⟩
         · exact ⟨by omega,br h3 (by simpa using hc42)⟩
         · omega
     · refine tt ⟨rfl,⟨by omega,fun z hz => by omega⟩,?_⟩
       intro n hinv
       obtain ⟨hn,h4⟩ := hinv
       refine tt (cd (fun hc47 => ?_) (fun hc47 => ?_))
       · refine tt ⟨ix,tt ?_⟩
         have hlw : (s.chans.getD n []).length ≤ 9223372036854775807 := hsm n
         refine ⟨fun hs1 => ?_,fun hs1 => ?_⟩
         · refine ⟨fun hs2 => ?_,fun hs2 => ?_⟩
           · refine ⟨fun hs3 => ?_,fun hs3 => ?_⟩
             · refine tt ⟨ix,tt ⟨(i5 (s.chans.getD n []) ((c.chans.getD n aX).w) hlw),tt ⟨(mF hs1),tt ⟨(vT hs2),tt ⟨(vT hs3),tt ⟨ix,tt (cd (fun hc84 => ?_) (fun hc84 => ?_))⟩⟩⟩⟩⟩⟩
               · refine tt ⟨?_,oK⟩
                 first | exact (rS (by omega)).symm | exact (rT (by omega)).symm | exact (rU (i := i) (by omega) (by simpa using hc42)).symm | exact (gM (n := n) (by omega) (j6 (by assumption))).symm | exact (gM (n := n) (by omega) (j7 (by show 0 ≤ (c.chans.getD n aX).frm; omega) (by show 0 ≤ (c.chans.getD n aX).dst; omega) (by show ¬((s.chans.getD n []).length : Int) ≤ (c.chans.getD n aX).cap; omega))).symm | exact (rV (by omega) (by omega) (fun z hz => h3 z (by omega)) (fun z hz => h4 z (by omega))).symm
               · refine tt ⟨w6,tt ⟨(n + 1),rfl,?_,(?_ : c.chans.length - (n + 1) < c.chans.length - n)⟩⟩
                 · refine ⟨by omega,br h4 ?_⟩
                   first | exact BB (by assumption) (by show ¬0 ≤ (c.chans.getD n aX).frm; omega) | exact BC (by assumption) (by show ¬0 ≤ (c.chans.getD n aX).dst; omega) | exact BD (by assumption) (by show ((s.chans.getD n []).length : Int) ≤ (c.chans.getD n aX).cap; omega)
                 · omega
             · refine tt ⟨ix,tt ⟨(i5 (s.chans.getD n []) ((c.chans.getD n aX).w) hlw),tt ⟨(mF hs1),tt ⟨(vT hs2),tt ⟨(vF hs3),tt ⟨w6,tt ⟨(n + 1),rfl,?_,(?_ : c.chans.length - (n + 1) < c.chans.length - n)⟩⟩⟩⟩⟩⟩⟩
               · refine ⟨by omega,br h4 ?_⟩
                 first | exact BB (by assumption) (by show ¬0 ≤ (c.chans.getD n aX).frm; omega) | exact BC (by assumption) (by show ¬0 ≤ (c.chans.getD n aX).dst; omega) | exact BD (by assumption) (by show ((s.chans.getD n []).length : Int) ≤ (c.chans.getD n aX).cap; omega)
               · omega
           · refine tt ⟨ix,tt ⟨(i5 (s.chans.getD n []) ((c.chans.getD n aX).w) hlw),tt ⟨(mF hs1),tt ⟨(vF hs2),tt ⟨w6,tt ⟨(n + 1),rfl,?_,(?_ : c.chans.length - (n + 1) < c.chans.length - n)⟩⟩⟩⟩⟩⟩
             · refine ⟨by omega,br h4 ?_⟩
               first | exact BB (by assumption) (by show ¬0 ≤ (c.chans.getD n aX).frm; omega) | exact BC (by assumption) (by show ¬0 ≤ (c.chans.getD n aX).dst; omega) | exact BD (by assumption) (by show ((s.chans.getD n []).length : Int) ≤ (c.chans.getD n aX).cap; omega)
             · omega
         · refine tt ⟨ix,tt ⟨(i5 (s.chans.getD n []) ((c.chans.getD n aX).w) hlw),tt ⟨(mT hs1),tt ⟨?_,oK⟩⟩⟩⟩
           first | exact (rS (by omega)).symm | exact (rT (by omega)).symm | exact (rU (i := i) (by omega) (by simpa using hc42)).symm | exact (gM (n := n) (by omega) (j6 (by assumption))).symm | exact (gM (n := n) (by omega) (j7 (by show 0 ≤ (c.chans.getD n aX).frm; omega) (by show 0 ≤ (c.chans.getD n aX).dst; omega) (by show ¬((s.chans.getD n []).length : Int) ≤ (c.chans.getD n aX).cap; omega))).symm | exact (rV (by omega) (by omega) (fun z hz => h3 z (by omega)) (fun z hz => h4 z (by omega))).symm
       · refine tt ⟨?_,oK⟩
         first | exact (rS (by omega)).symm | exact (rT (by omega)).symm | exact (rU (i := i) (by omega) (by simpa using hc42)).symm | exact (gM (n := n) (by omega) (j6 (by assumption))).symm | exact (gM (n := n) (by omega) (j7 (by show 0 ≤ (c.chans.getD n aX).frm; omega) (by show 0 ≤ (c.chans.getD n aX).dst; omega) (by show ¬((s.chans.getD n []).length : Int) ≤ (c.chans.getD n aX).cap; omega))).symm | exact (rV (by omega) (by omega) (fun z hz => h3 z (by omega)) (fun z hz => h4 z (by omega))).symm
 · refine tt ⟨(nT hs0),tt ⟨?_,oK⟩⟩
   first | exact (rS (by omega)).symm | exact (rT (by omega)).symm | exact (rU (i := i) (by omega) (by simpa using hc42)).symm | exact (gM (n := n) (by omega) (j6 (by assumption))).symm | exact (gM (n := n) (by omega) (j7 (by show 0 ≤ (c.chans.getD n aX).frm; omega) (by show 0 ≤ (c.chans.getD n aX).dst; omega) (by show ¬((s.chans.getD n []).length : Int) ≤ (c.chans.getD n aX).cap; omega))).symm | exact (rV (by omega) (by omega) (fun z hz => h3 z (by omega)) (fun z hz => h4 z (by omega))).symm
abbrev Nu (c : Ci) : Ct := ⟨52,[(.agg (mz c))],true,(.agg [(dL 2 aY ba ((aH c).procs)),(dL 1 ac [] ((aH c).chans))])⟩
abbrev nu (c : Ci) : Lp (Nat) := fG [1,2,3,4] 5 (fun (i : Nat) => ⟨[(1,(.ptr 0 0 0 0)),(2,(.ptr 1 0 0 0)),(3,(.ptr 3 0 0 0)),(4,(i6 (i : Int)))],[(.var 38 (mz c)),(.var 42 [.nils,.nils]),(.arr 28 1 ac [] (List.replicate c.chans.length ([] : List Int))),(.var 42 [(.own 4),(.own 2)]),(.arr 112 2 aY ba (tab (fun i => aV (bH c i)) i))]⟩) (fun (i : Nat) => i ≤ c.procs.length) (fun (i : Nat) => c.procs.length - i)
theorem Fd (c : Ci) (hc : bo c) : CC (Nu c) := by
 have hnl := hc.nl
 have hcl := hc.cl
 refine af.vc (V := TT 5 ((((0 : Int) ≤ (c.chans.length : Int)∧(c.chans.length : Int) ≤ (c.chans.length : Int)∧(c.chans.length : Int) ≤ 137438953472)∧(List.replicate c.chans.length ([] : List Int)).length = c.chans.length∧∀ x ∈ (List.replicate c.chans.length ([] : List Int)),cP [.nils] (ac x))∧TT 4 (GO (nu c) 0 (∀ i,(nu c).inv i → TT 5 (CD ((i : Int) < (c.procs.length : Int)) (TT 5 (IX (i : Int) c.procs.length∧TT 1 (CC (Nq (c.procs.getD i ax))∧an [[(LI ((aV (c.procs.getD i ax)).regs)),(dL 1 ac [] ((aV (c.procs.getD i ax)).mems))]] ([(⟨(aV (c.procs.getD i ax)).regs,(aV (c.procs.getD i ax)).mems⟩ : Ps)].map aY)∧((tab (fun i => aV (bH c i)) i).length + ([(⟨(aV (c.procs.getD i ax)).regs,(aV (c.procs.getD i ax)).mems⟩ : Ps)].map aY).length ≤ 137438953472∧(tab (fun i => aV (bH c i)) i).map aY ++ [(⟨(aV (c.procs.getD i ax)).regs,(aV (c.procs.getD i ax)).mems⟩ : Ps)].map aY = (tab (fun i => aV (bH c i)) (i + 1)).map aY)∧TT 3 (W6 ((i + 1 : Nat) : Int)∧TT 1 (AG (nu c) i (i + 1)))))) (TT 3 ((tab (fun i => aV (bH c i)) i).map aY = ((aH c).procs).map aY∧(List.replicate c.chans.length ([] : List Int)).map ac = ((aH c).chans).map ac∧True))))))) (.w 1 [(3,.box 28 1 ac [] (List.replicate c.chans.length ([] : List Int)))] <| .g 2 3 0 112 2 aY ba <| .l (nu c) 0 (fun i => .b 14 (.w 5 [(7,(Nq (c.procs.getD i ax)).O),(8,.box 112 2 aY ba [(⟨(aV (c.procs.getD i ax)).regs,(aV (c.procs.getD i ax)).mems⟩ : Ps)]),(9,.box 112 2 aY ba (tab (fun i => aV (bH c i)) (i + 1)))] <| .w 4 [(1,.val (i6 ((i + 1 : Nat) : Int)))] <| .e) (.e))) Tryz.func52 rfl rfl rfl (by kernel_rfl) ?_
 refine tt ⟨⟨by omega,by simp,fun x hx => by rw [List.eq_of_mem_replicate hx]; exact ⟨rfl,oK⟩⟩,tt ⟨rfl,(by omega),?_⟩⟩
 intro i hinv
 have hi := hinv
 refine tt (cd (fun hc14 => ?_) (fun hc14 => ?_))
 · have hpk := hc.pr i (by omega)
   refine tt ⟨ix,tt ⟨(E9 (c.procs.getD i ax) hpk),⟨⟨⟨rfl,rfl,oK⟩,oK⟩,⟨(f9 (f := fun i => aV (bH c i)) (by omega)),tt ⟨w6,tt ⟨(i + 1),rfl,(?_ : (i + 1) ≤ c.procs.length),(?_ : c.procs.length - (i + 1) < c.procs.length - i)⟩⟩⟩⟩⟩⟩
   · omega
   · omega
 · refine tt ⟨(congrArg _ (?_ : (tab (fun i => aV (bH c i)) i) = ((aH c).procs))),(congrArg _ (?_ : (List.replicate c.chans.length ([] : List Int)) = ((aH c).chans))),oK⟩
   · rw [show i = c.procs.length by omega]; rfl
   · rfl
abbrev L3 (s : Ns) (n : Int) (l : List Int) : Ct := ⟨56,[(.agg (oC s)),(i6 n),(LI l)],true,(.agg [(dL 2 aY ba ((d9 s n.toNat l).procs)),(dL 1 ac [] ((d9 s n.toNat l).chans))])⟩
theorem DG (s : Ns) (n : Int) (l : List Int) (h1 : 0 ≤ n) (h2 : n < s.chans.length) (h3 : s.chans.length ≤ 1000000) : CC (L3 s n l) := by
 refine af.vc (V := TT 4 (an [] (([] : List (List Int)).map ac)∧TT 2 ((([] : List (List Int)).length + (s.chans.map ac).length ≤ 137438953472∧([] : List (List Int)).map ac ++ s.chans.map ac = s.chans.map ac)∧TT 7 (IX n s.chans.length∧(n.toNat < s.chans.length∧(s.chans.map ac).set n.toNat ((ac (s.chans.getD n.toNat [])).take 0 ++ [(.sl 1 (ae .i64) 0 l)] ++ (ac (s.chans.getD n.toNat [])).drop (0 + 1)) = (s.chans.set n.toNat l).map ac)∧TT 3 (s.procs.map aY = ((d9 s n.toNat l).procs).map aY∧(s.chans.set n.toNat l).map ac = ((d9 s n.toNat l).chans).map ac∧True))))) (.w 1 [(2,.app false 28 1 ac [] ([] : List (List Int))),(5,.app false 28 1 ac [] s.chans)] <| .w 2 [(5,.box 28 1 ac [] (s.chans.set n.toNat l))] <| .e) Tryz.func56 rfl rfl rfl (by kernel_rfl) ?_
 refine tt ⟨oK,tt ⟨⟨by simp only [List.length_map,List.length_cons,List.length_nil,List.length_append,List.length_drop,List.length_take]; first | omega | (simp; first | done | omega),by simp only [List.map_append,List.map_nil,List.append_nil,List.nil_append]⟩,tt ⟨ix,⟨⟨om,by simp only [List.map_set]; rfl⟩,tt ⟨(congrArg _ (?_ : s.procs = ((d9 s n.toNat l).procs))),(congrArg _ (?_ : (s.chans.set n.toNat l) = ((d9 s n.toNat l).chans))),oK⟩⟩⟩⟩⟩
 all_goals (rfl)
abbrev L4 (c : Ci) (s : Ns) (n : Int) (ws : List Int) : Ct := ⟨37,[(.agg (mz c)),(.agg (oC s)),(.agg [(i6 n),(LI ws)])],true,(.agg [(dL 2 aY ba (((aF c s n ws).1).procs)),(dL 1 ac [] (((aF c s n ws).1).chans)),(LI ([] : List Int)),(i6 ((aF c s n ws).2))])⟩
theorem Ay (c : Ci) (s : Ns) (n : Int) (ws : List Int) (hc : bo c) (hs : bG c s) (hsm : ga s 4294967296) (hw : ws.length ≤ 4294967296) : CC (L4 c s n ws) := by
 have hnl := hc.nl
 have hcl := hc.cl
 have hl1 := hs.pl
 have hl2 := hs.cl
 refine af.vc (V := TT 4 (CS (n < 0) (TT 3 ((True∧(decide (n < 0)) = true)∧TT 8 ((((aF c s n ws).1).procs) = []∧(((aF c s n ws).1).chans) = []∧([] : List Int) = []∧(1 : Int) = ((aF c s n ws).2)∧True))) (CS (n ≥ (c.chans.length : Int)) (TT 3 ((True∧(decide (n < 0)) = false)∧TT 7 ((True∧(decide (n ≥ (c.chans.length : Int))) = true)∧TT 6 ((((aF c s n ws).1).procs) = []∧(((aF c s n ws).1).chans) = []∧([] : List Int) = []∧(1 : Int) = ((aF c s n ws).2)∧True)))) (CS (((c.chans.getD n.toNat aX).frm) = (-1)) (TT 3 ((True∧(decide (n < 0)) = false)∧TT 7 ((True∧(decide (n ≥ (c.chans.length : Int))) = false)∧TT 4 (IX n c.chans.length∧TT 4 ((True∧(!decide (((c.chans.getD n.toNat aX).frm) = (-1))) = false)∧TT 6 (IX n c.chans.length∧TT 2 (CC (Hq ws ((c.chans.getD n.toNat aX).w))∧TT 2 (CB (!(cA ws ((c.chans.getD n.toNat aX).w))) (TT 3 ((((aF c s n ws).1).procs) = []∧(((aF c s n ws).1).chans) = []∧([] : List Int) = []∧(1 : Int) = ((aF c s n ws).2)∧True)) (TT 3 (an [] (([] : List Int).map (ae .i64))∧TT 4 (IX n s.chans.length∧TT 1 ((([] : List Int).length + ((s.chans.getD n.toNat []).map (ae .i64)).length ≤ 137438953472∧([] : List Int).map (ae .i64) ++ (s.chans.getD n.toNat []).map (ae .i64) = (s.chans.getD n.toNat []).map (ae .i64))∧TT 2 (((s.chans.getD n.toNat []).length + (ws.map (ae .i64)).length ≤ 137438953472∧(s.chans.getD n.toNat []).map (ae .i64) ++ ws.map (ae .i64) = ((s.chans.getD n.toNat []) ++ ws).map (ae .i64))∧CC (L3 s n ((s.chans.getD n.toNat []) ++ ws))∧TT 3 (((d9 s n.toNat ((s.chans.getD n.toNat []) ++ ws)).procs).map aY = (((aF c s n ws).1).procs).map aY∧((d9 s n.toNat ((s.chans.getD n.toNat []) ++ ws)).chans).map ac = (((aF c s n ws).1).chans).map ac∧([] : List Int) = []∧(0 : Int) = ((aF c s n ws).2)∧True)))))))))))))) (TT 3 ((True∧(decide (n < 0)) = false)∧TT 7 ((True∧(decide (n ≥ (c.chans.length : Int))) = false)∧TT 4 (IX n c.chans.length∧TT 4 ((True∧(!decide (((c.chans.getD n.toNat aX).frm) = (-1))) = true)∧TT 4 ((((aF c s n ws).1).procs) = []∧(((aF c s n ws).1).chans) = []∧([] : List Int) = []∧(1 : Int) = ((aF c s n ws).2)∧True)))))))))) (.s 1 (n < 0) (.w 1 [(3,.val (dB true))] <| .e) (.s 1 (n ≥ (c.chans.length : Int)) (.w 1 [(3,.val (dB false)),(11,.val (dB true))] <| .e) (.s 1 (((c.chans.getD n.toNat aX).frm) = (-1)) (.w 1 [(3,.val (dB false)),(11,.val (dB false)),(21,.val (dB false)),(31,(Hq ws ((c.chans.getD n.toNat aX).w)).O)] <| .b 40 (.e) (.w 3 [(3,.app false 3 1 (ae .i64) 0 ([] : List Int)),(10,.app false 3 1 (ae .i64) 0 (s.chans.getD n.toNat [])),(13,.app true 3 1 (ae .i64) 0 ((s.chans.getD n.toNat []) ++ ws)),(14,(L3 s n ((s.chans.getD n.toNat []) ++ ws)).O)] <| .e)) (.w 1 [(3,.val (dB false)),(11,.val (dB false)),(21,.val (dB true))] <| .e)))) Tryz.func37 rfl rfl rfl (by kernel_rfl) ?_
 refine tt ⟨fun hs0 => ?_,fun hs0 => ?_⟩
 · refine tt ⟨(vT hs0),tt ⟨?_,?_,?_,?_,oK⟩⟩
   all_goals (all_goals (first | rfl | (rw [dG (gz (by omega))]) | (rw [dG (gA (by omega))]) | (rw [dG (mr (by show ¬(c.chans.getD n.toNat aX).frm = -1; omega))]) | (rw [fB (by simpa using hc40)]) | (rw [fS (kf (by omega) (by omega) (show (c.chans.getD n.toNat aX).frm = -1 by omega)) (by simpa using hc40)])))
 · refine ⟨fun hs1 => ?_,fun hs1 => ?_⟩
   · refine tt ⟨(vF hs0),tt ⟨(vT hs1),tt ⟨?_,?_,?_,?_,oK⟩⟩⟩
     all_goals (all_goals (first | rfl | (rw [dG (gz (by omega))]) | (rw [dG (gA (by omega))]) | (rw [dG (mr (by show ¬(c.chans.getD n.toNat aX).frm = -1; omega))]) | (rw [fB (by simpa using hc40)]) | (rw [fS (kf (by omega) (by omega) (show (c.chans.getD n.toNat aX).frm = -1 by omega)) (by simpa using hc40)])))
   · refine ⟨fun hs2 => ?_,fun hs2 => ?_⟩
     · refine tt ⟨(vF hs0),tt ⟨(vF hs1),tt ⟨ix,tt ⟨(nF hs2),tt ⟨ix,tt ⟨(i5 ws ((c.chans.getD n.toNat aX).w) (by omega)),tt ⟨fun hc40 => ?_,fun hc40 => ?_⟩⟩⟩⟩⟩⟩⟩
       · refine tt ⟨?_,?_,?_,?_,oK⟩
         all_goals (all_goals (first | rfl | (rw [dG (gz (by omega))]) | (rw [dG (gA (by omega))]) | (rw [dG (mr (by show ¬(c.chans.getD n.toNat aX).frm = -1; omega))]) | (rw [fB (by simpa using hc40)]) | (rw [fS (kf (by omega) (by omega) (show (c.chans.getD n.toNat aX).frm = -1 by omega)) (by simpa using hc40)])))
       · have hlw : (s.chans.getD n.toNat []).length ≤ 4294967296 := hsm n.toNat
         refine tt ⟨oK,tt ⟨ix,tt ⟨⟨by simp only [List.length_map,List.length_cons,List.length_nil,List.length_append,List.length_drop,List.length_take]; first | omega | (simp; first | done | omega),by simp only [List.map_append,List.map_nil,List.append_nil,List.nil_append]⟩,tt ⟨⟨by simp only [List.length_map,List.length_cons,List.length_nil,List.length_append,List.length_drop,List.length_take]; first | omega | (simp; first | done | omega),by simp only [List.map_append,List.map_nil,List.append_nil,List.nil_append]⟩,⟨(DG s n ((s.chans.getD n.toNat []) ++ ws) om om om),tt ⟨(congrArg _ (?_ : ((d9 s n.toNat ((s.chans.getD n.toNat []) ++ ws)).procs) = (((aF c s n ws).1).procs))),(congrArg _ (?_ : ((d9 s n.toNat ((s.chans.getD n.toNat []) ++ ws)).chans) = (((aF c s n ws).1).chans))),?_,?_,oK⟩⟩⟩⟩⟩⟩
         all_goals (all_goals (first | rfl | (rw [dG (gz (by omega))]) | (rw [dG (gA (by omega))]) | (rw [dG (mr (by show ¬(c.chans.getD n.toNat aX).frm = -1; omega))]) | (rw [fB (by simpa using hc40)]) | (rw [fS (kf (by omega) (by omega) (show (c.chans.getD n.toNat aX).frm = -1 by omega)) (by simpa using hc40)])))
     · refine tt ⟨(vF hs0),tt ⟨(vF hs1),tt ⟨ix,tt ⟨(nT hs2),tt ⟨?_,?_,?_,?_,oK⟩⟩⟩⟩⟩
       all_goals (all_goals (first | rfl | (rw [dG (gz (by omega))]) | (rw [dG (gA (by omega))]) | (rw [dG (mr (by show ¬(c.chans.getD n.toNat aX).frm = -1; omega))]) | (rw [fB (by simpa using hc40)]) | (rw [fS (kf (by omega) (by omega) (show (c.chans.getD n.toNat aX).frm = -1 by omega)) (by simpa using hc40)])))
abbrev Nv (c : Ci) (s : Ns) (p : Nat) : Ct := ⟨96,[(.agg (mz c)),(.agg (oC s)),(i6 (p : Int))],true,(.agg [(dL 2 bR aW (cC c s p)),(LB (da c s p))])⟩
abbrev mA (c : Ci) (s : Ns) (p : Nat) : Lp (Nat) := fG [2,3,4,6,7,8] 5 (fun (i : Nat) => ⟨[(2,(i6 (p : Int))),(3,(.ptr 0 0 0 0)),(4,(.ptr 1 0 0 0)),(6,(.ptr 2 0 0 0)),(7,(.ptr 3 0 0 0)),(8,(i6 (i : Int)))],[(.var 38 (mz c)),(.var 42 (oC s)),(.var 196 [.nils,.nils]),(.var 196 [(.own 4),.nils]),(.arr 182 2 bR aW (tab (b3 c s p) i))]⟩) (fun (i : Nat) => i ≤ (c.procs.getD p ax).takes.length) (fun (i : Nat) => (c.procs.getD p ax).takes.length - i)
abbrev mB (c : Ci) (s : Ns) (p : Nat) (i : Nat) : Lp (Nat) := fG [2,3,4,6,7,11] 6 (fun (m : Nat) => ⟨[(2,(i6 (p : Int))),(3,(.ptr 0 0 0 0)),(4,(.ptr 1 0 0 0)),(6,(.ptr 2 0 0 0)),(7,(.ptr 3 0 0 0)),(11,(i6 (m : Int)))],[(.var 38 (mz c)),(.var 42 (oC s)),(.var 196 [.nils,.nils]),(.var 196 [(.own 4),(.own 5)]),(.arr 182 2 bR aW (tab (b3 c s p) i)),(.arr 4 1 aL false (tab (b4 c s p) m))]⟩) (fun (m : Nat) => m ≤ (c.procs.getD p ax).puts.length) (fun (m : Nat) => (c.procs.getD p ax).puts.length - m)
theorem Hr (c : Ci) (s : Ns) (p : Nat) (hc : bo c) (hs : bG c s) (hp : p < c.procs.length) : CC (Nv c s p) := by
 have hnl := hc.nl
 have hcl := hc.cl
 have hpk : gm (c.procs.getD p ax) := hc.pr p hp
 have hl1 := hs.pl
 have hl2 := hs.cl
 have ht1 : (c.procs.getD p ax).takes.length ≤ 100 := hpk.tl
 have ht2 : (c.procs.getD p ax).puts.length ≤ 100 := hpk.pl
 refine af.vc (V := TT 7 (GO (mA c s p) 0 (∀ i,(mA c s p).inv i → TT 4 (IX (p : Int) c.procs.length∧TT 4 (CD ((i : Int) < ((((c.procs.getD p ax).takes).length : Nat) : Int)) (TT 5 (IX (p : Int) c.procs.length∧TT 3 (IX (i : Int) (((c.procs.getD p ax).takes).length)∧TT 2 (IX ((((c.procs.getD p ax).takes).getD i bK).chan) s.chans.length∧TT 8 (CD ((((s.chans.getD (((((c.procs.getD p ax).takes).getD i bK).chan).toNat) []).length : Nat) : Int) > 0) (TT 1 (IX 0 ((s.chans.getD (((((c.procs.getD p ax).takes).getD i bK).chan).toNat) []).length)∧TT 6 (an [[(dB true),(i6 ((s.chans.getD (((((c.procs.getD p ax).takes).getD i bK).chan).toNat) []).getD 0 0))]] ([(⟨true,((s.chans.getD (((((c.procs.getD p ax).takes).getD i bK).chan).toNat) []).getD 0 0)⟩ : Hd)].map bR)∧((tab (b3 c s p) i).length + ([(⟨true,((s.chans.getD (((((c.procs.getD p ax).takes).getD i bK).chan).toNat) []).getD 0 0)⟩ : Hd)].map bR).length ≤ 137438953472∧(tab (b3 c s p) i).map bR ++ [(⟨true,((s.chans.getD (((((c.procs.getD p ax).takes).getD i bK).chan).toNat) []).getD 0 0)⟩ : Hd)].map bR = (tab (b3 c s p) (i + 1)).map bR)∧TT 3 (W6 ((i + 1 : Nat) : Int)∧TT 1 (AG (mA c s p) i (i + 1)))))) (TT 3 (an [[(dB false),(i6 0)]] ([(⟨false,0⟩ : Hd)].map bR)∧((tab (b3 c s p) i).length + ([(⟨false,0⟩ : Hd)].map bR).length ≤ 137438953472∧(tab (b3 c s p) i).map bR ++ [(⟨false,0⟩ : Hd)].map bR = (tab (b3 c s p) (i + 1)).map bR)∧TT 3 (W6 ((i + 1 : Nat) : Int)∧TT 1 (AG (mA c s p) i (i + 1)))))))))) (TT 1 (GO (mB c s p i) 0 (∀ m,(mB c s p i).inv m → TT 4 (IX (p : Int) c.procs.length∧TT 4 (CD ((m : Int) < ((((c.procs.getD p ax).puts).length : Nat) : Int)) (TT 3 (IX (p : Int) c.procs.length∧TT 3 (IX (m : Int) (((c.procs.getD p ax).puts).length)∧TT 3 (CS (((c.chans.getD (((((c.procs.getD p ax).puts).getD m bp).chan).toNat) aX).dst) = (-1)) (TT 5 (IX ((((c.procs.getD p ax).puts).getD m bp).chan) c.chans.length∧TT 3 ((True∧(decide (((c.chans.getD (((((c.procs.getD p ax).puts).getD m bp).chan).toNat) aX).dst) = (-1))) = true)∧TT 1 (an [[(dB true)]] ([true].map aL)∧((tab (b4 c s p) m).length + ([true].map aL).length ≤ 137438953472∧(tab (b4 c s p) m).map aL ++ [true].map aL = (tab (b4 c s p) (m + 1)).map aL)∧TT 3 (W6 ((m + 1 : Nat) : Int)∧TT 1 (AG (mB c s p i) m (m + 1))))))) (TT 5 (IX ((((c.procs.getD p ax).puts).getD m bp).chan) c.chans.length∧TT 3 ((True∧(decide (((c.chans.getD (((((c.procs.getD p ax).puts).getD m bp).chan).toNat) aX).dst) = (-1))) = false)∧TT 3 (IX ((((c.procs.getD p ax).puts).getD m bp).chan) s.chans.length∧TT 5 (IX ((((c.procs.getD p ax).puts).getD m bp).chan) c.chans.length∧TT 4 (an [[(dB (decide ((((s.chans.getD (((((c.procs.getD p ax).puts).getD m bp).chan).toNat) []).length : Nat) : Int) < ((c.chans.getD (((((c.procs.getD p ax).puts).getD m bp).chan).toNat) aX).cap))))]] ([decide ((((s.chans.getD (((((c.procs.getD p ax).puts).getD m bp).chan).toNat) []).length : Nat) : Int) < ((c.chans.getD (((((c.procs.getD p ax).puts).getD m bp).chan).toNat) aX).cap))].map aL)∧((tab (b4 c s p) m).length + ([decide ((((s.chans.getD (((((c.procs.getD p ax).puts).getD m bp).chan).toNat) []).length : Nat) : Int) < ((c.chans.getD (((((c.procs.getD p ax).puts).getD m bp).chan).toNat) aX).cap))].map aL).length ≤ 137438953472∧(tab (b4 c s p) m).map aL ++ [decide ((((s.chans.getD (((((c.procs.getD p ax).puts).getD m bp).chan).toNat) []).length : Nat) : Int) < ((c.chans.getD (((((c.procs.getD p ax).puts).getD m bp).chan).toNat) aX).cap))].map aL = (tab (b4 c s p) (m + 1)).map aL)∧TT 3 (W6 ((m + 1 : Nat) : Int)∧TT 1 (AG (mB c s p i) m (m + 1))))))))))))) (TT 3 ((tab (b3 c s p) i).map bR = (cC c s p).map bR∧(tab (b4 c s p) m).map aL = (da c s p).map aL∧True)))))))))))) (.g 2 3 0 182 2 bR aW <| .l (mA c s p) 0 (fun i => .b 22 (.b 42 (.w 9 [(3,.box 182 2 bR aW [(⟨true,((s.chans.getD (((((c.procs.getD p ax).takes).getD i bK).chan).toNat) []).getD 0 0)⟩ : Hd)]),(4,.box 182 2 bR aW (tab (b3 c s p) (i + 1)))] <| .w 4 [(1,.val (i6 ((i + 1 : Nat) : Int)))] <| .e) (.w 9 [(3,.box 182 2 bR aW [(⟨false,0⟩ : Hd)]),(4,.box 182 2 bR aW (tab (b3 c s p) (i + 1)))] <| .w 4 [(1,.val (i6 ((i + 1 : Nat) : Int)))] <| .e)) (.g 10 3 1 4 1 aL false <| .l (mB c s p i) 0 (fun m => .b 61 (.s 14 (((c.chans.getD (((((c.procs.getD p ax).puts).getD m bp).chan).toNat) aX).dst) = (-1)) (.w 14 [(9,.val (dB true)),(24,.box 4 1 aL false [true]),(25,.box 4 1 aL false (tab (b4 c s p) (m + 1)))] <| .w 12 [(1,.val (i6 ((m + 1 : Nat) : Int)))] <| .e) (.w 14 [(9,.val (dB false)),(24,.box 4 1 aL false [decide ((((s.chans.getD (((((c.procs.getD p ax).puts).getD m bp).chan).toNat) []).length : Nat) : Int) < ((c.chans.getD (((((c.procs.getD p ax).puts).getD m bp).chan).toNat) aX).cap))]),(25,.box 4 1 aL false (tab (b4 c s p) (m + 1)))] <| .w 12 [(1,.val (i6 ((m + 1 : Nat) : Int)))] <| .e)) (.e))))) Tryz.func96 rfl rfl rfl (by kernel_rfl) ?_
 refine tt ⟨rfl,(by omega),?_⟩
 intro i hinv
 have hi := hinv
 refine tt ⟨ix,tt (cd (fun hc22 => ?_) (fun hc22 => ?_))⟩
 · have htk : 0 ≤ ((c.procs.getD p ax).takes.getD i bK).chan∧((c.procs.getD p ax).takes.getD i bK).chan < c.chans.length := ⟨(hc.tk p hp i (show i < (c.procs.getD p ax).takes.length by omega)).1,(hc.tk p hp i (show i < (c.procs.getD p ax).takes.length by omega)).2.1⟩
   refine tt ⟨ix,tt ⟨ix,tt ⟨ix,tt (cd (fun hc42 => ?_) (fun hc42 => ?_))⟩⟩⟩
   · refine tt ⟨ix,tt ⟨⟨⟨rfl,rfl,oK⟩,oK⟩,⟨(bt (by omega) (by first | exact (if_pos (show 0 < (s.chans.getD ((c.procs.getD p ax).takes.getD i bK).chan.toNat []).length by omega)).symm | exact (if_neg (show ¬0 < (s.chans.getD ((c.procs.getD p ax).takes.getD i bK).chan.toNat []).length by omega)).symm)),tt ⟨w6,tt ⟨(i + 1),rfl,(?_ : (i + 1) ≤ (c.procs.getD p ax).takes.length),(?_ : (c.procs.getD p ax).takes.length - (i + 1) < (c.procs.getD p ax).takes.length - i)⟩⟩⟩⟩⟩
     · omega
     · omega
   · refine tt ⟨⟨⟨rfl,rfl,oK⟩,oK⟩,⟨(bt (by omega) (by first | exact (if_pos (show 0 < (s.chans.getD ((c.procs.getD p ax).takes.getD i bK).chan.toNat []).length by omega)).symm | exact (if_neg (show ¬0 < (s.chans.getD ((c.procs.getD p ax).takes.getD i bK).chan.toNat []).length by omega)).symm)),tt ⟨w6,tt ⟨(i + 1),rfl,(?_ : (i + 1) ≤ (c.procs.getD p ax).takes.length),(?_ : (c.procs.getD p ax).takes.length - (i + 1) < (c.procs.getD p ax).takes.length - i)⟩⟩⟩⟩
     · omega
     · omega
 · refine tt ⟨rfl,(by omega),?_⟩
   intro m hinv
   have hm := hinv
   refine tt ⟨ix,tt (cd (fun hc61 => ?_) (fun hc61 => ?_))⟩
   · have hpt : 0 ≤ ((c.procs.getD p ax).puts.getD m bp).chan∧((c.procs.getD p ax).puts.getD m bp).chan < c.chans.length := ⟨(hc.pt p hp m (show m < (c.procs.getD p ax).puts.length by omega)).1,(hc.pt p hp m (show m < (c.procs.getD p ax).puts.length by omega)).2.1⟩
     refine tt ⟨ix,tt ⟨ix,tt ⟨fun hs0 => ?_,fun hs0 => ?_⟩⟩⟩
     · refine tt ⟨ix,tt ⟨(vT hs0),tt ⟨⟨⟨rfl,oK⟩,oK⟩,⟨(bt (by omega) (by first | exact (yF hs0).symm | exact (md hs0).symm | exact (md hs1).symm)),tt ⟨w6,tt ⟨(m + 1),rfl,(?_ : (m + 1) ≤ (c.procs.getD p ax).puts.length),(?_ : (c.procs.getD p ax).puts.length - (m + 1) < (c.procs.getD p ax).puts.length - m)⟩⟩⟩⟩⟩⟩
       · omega
       · omega
     · refine tt ⟨ix,tt ⟨(vF hs0),tt ⟨ix,tt ⟨ix,tt ⟨⟨⟨rfl,oK⟩,oK⟩,⟨(bt (by omega) (by first | exact (yF hs0).symm | exact (md hs0).symm | exact (md hs1).symm)),tt ⟨w6,tt ⟨(m + 1),rfl,(?_ : (m + 1) ≤ (c.procs.getD p ax).puts.length),(?_ : (c.procs.getD p ax).puts.length - (m + 1) < (c.procs.getD p ax).puts.length - m)⟩⟩⟩⟩⟩⟩⟩⟩
       · omega
       · omega
   · refine tt ⟨(congrArg _ (?_ : (tab (b3 c s p) i) = (cC c s p))),(congrArg _ (?_ : (tab (b4 c s p) m) = (da c s p))),oK⟩
     · rw [show i = (c.procs.getD p ax).takes.length by omega]; rfl
     · rw [show m = (c.procs.getD p ax).puts.length by omega]; rfl
abbrev L5 (c : Ci) (s : Ns) (p : Nat) : Ct := ⟨82,[(.agg (mz c)),(.agg (oC s)),(i6 (p : Int))],true,(.agg [(dB ((ab c s p).fires)),(LI (((ab c s p).s).regs)),(dL 1 ac [] (((ab c s p).s).mems)),(LB ((ab c s p).pops)),(dL 2 bR aW ((ab c s p).puts))])⟩
theorem xw (c : Ci) (s : Ns) (p : Nat) (hc : bo c) (hs : bG c s) (hp : p < c.procs.length) : CC (L5 c s p) := by
 have hnl := hc.nl
 have hcl := hc.cl
 have hpk : gm (c.procs.getD p ax) := hc.pr p hp
 have hl1 := hs.pl
 have hl2 := hs.cl
 have ht1 : (c.procs.getD p ax).takes.length ≤ 100 := hpk.tl
 have ht2 : (c.procs.getD p ax).puts.length ≤ 100 := hpk.pl
 refine af.vc (V := TT 6 (IX (p : Int) c.procs.length∧TT 4 (IX (p : Int) s.procs.length∧TT 4 (CC (Nv c s p)∧CC (Nr (c.procs.getD p ax) (s.procs.getD p ba) (cC c s p) (da c s p))∧TT 2 (((aM (c.procs.getD p ax) (s.procs.getD p ba) (cC c s p) (da c s p)).fires) = ((ab c s p).fires)∧(((aM (c.procs.getD p ax) (s.procs.getD p ba) (cC c s p) (da c s p)).s).regs).map (ae .i64) = (((ab c s p).s).regs).map (ae .i64)∧(((aM (c.procs.getD p ax) (s.procs.getD p ba) (cC c s p) (da c s p)).s).mems).map ac = (((ab c s p).s).mems).map ac∧((aM (c.procs.getD p ax) (s.procs.getD p ba) (cC c s p) (da c s p)).pops).map aL = ((ab c s p).pops).map aL∧((aM (c.procs.getD p ax) (s.procs.getD p ba) (cC c s p) (da c s p)).puts).map bR = ((ab c s p).puts).map bR∧True))))) (.w 1 [(13,(Nv c s p).O),(14,(Nr (c.procs.getD p ax) (s.procs.getD p ba) (cC c s p) (da c s p)).O)] <| .e) Tryz.func82 rfl rfl rfl (by kernel_rfl) ?_
 refine tt ⟨ix,tt ⟨ix,tt ⟨(Hr c s p hc hs hp),⟨(Fa (c.procs.getD p ax) (s.procs.getD p ba) (cC c s p) (da c s p) hpk (hs.pv p hp) (qn hc hs hp) (by rw [da,aR])),tt ⟨?_,(congrArg _ (?_ : (((aM (c.procs.getD p ax) (s.procs.getD p ba) (cC c s p) (da c s p)).s).regs) = (((ab c s p).s).regs))),(congrArg _ (?_ : (((aM (c.procs.getD p ax) (s.procs.getD p ba) (cC c s p) (da c s p)).s).mems) = (((ab c s p).s).mems))),(congrArg _ (?_ : ((aM (c.procs.getD p ax) (s.procs.getD p ba) (cC c s p) (da c s p)).pops) = ((ab c s p).pops))),(congrArg _ (?_ : ((aM (c.procs.getD p ax) (s.procs.getD p ba) (cC c s p) (da c s p)).puts) = ((ab c s p).puts))),oK⟩⟩⟩⟩⟩
 all_goals (rfl)
abbrev Nw (c : Ci) (s : Ns) (p : Int) : Ct := ⟨69,[(.agg (mz c)),(.agg (oC s)),(i6 p)],false,(dB (iQ c s p))⟩
theorem I5 (c : Ci) (s : Ns) (p : Int) (hc : bo c) (hs : bG c s) : CC (Nw c s p) := by
 have hnl := hc.nl
 have hcl := hc.cl
 refine af.vc (V := TT 3 (CS (p ≥ 0) (CS (p < (c.procs.length : Int)) (TT 2 ((True∧(decide (p ≥ 0)) = true)∧TT 6 ((True∧(decide (p < (c.procs.length : Int))) = true)∧TT 2 ((True∧p = (p.toNat : Int))∧CC (L5 c s p.toNat)∧TT 4 (((ab c s p.toNat).fires) = (iQ c s p)∧True))))) (TT 2 ((True∧(decide (p ≥ 0)) = true)∧TT 6 ((True∧(decide (p < (c.procs.length : Int))) = false)∧TT 8 (false = (iQ c s p)∧True))))) (TT 2 ((True∧(decide (p ≥ 0)) = false)∧TT 15 (false = (iQ c s p)∧True))))) (.s 1 (p ≥ 0) (.s 1 (p < (c.procs.length : Int)) (.w 1 [(2,.val (dB true)),(9,.val (dB true)),(12,.val (i6 (p.toNat : Int))),(13,(L5 c s p.toNat).O)] <| .e) (.w 1 [(2,.val (dB true)),(9,.val (dB false))] <| .e)) (.w 1 [(2,.val (dB false))] <| .e)) Tryz.func69 rfl rfl rfl (by kernel_rfl) ?_
 refine tt ⟨fun hs0 => ?_,fun hs0 => ?_⟩
 · refine ⟨fun hs1 => ?_,fun hs1 => ?_⟩
   · refine tt ⟨(vT hs0),tt ⟨(vT hs1),tt ⟨⟨oK,(by omega)⟩,⟨(xw c s p.toNat hc hs (by omega)),tt ⟨?_,oK⟩⟩⟩⟩⟩
     first | exact (vi (by omega)).symm | exact (vj (by omega)).symm | exact (tA (by omega) (by omega)).symm
   · refine tt ⟨(vT hs0),tt ⟨(vF hs1),tt ⟨?_,oK⟩⟩⟩
     first | exact (vi (by omega)).symm | exact (vj (by omega)).symm | exact (tA (by omega) (by omega)).symm
 · refine tt ⟨(vF hs0),tt ⟨?_,oK⟩⟩
   first | exact (vi (by omega)).symm | exact (vj (by omega)).symm | exact (tA (by omega) (by omega)).symm
abbrev KG (a b : Ns) : Ct := ⟨34,[(.agg [(dL 2 aY ba a.procs),(dL 1 ac [] a.chans)]),(.agg [(dL 2 aY ba b.procs),(dL 1 ac [] b.chans)])],false,(dB (b5 a b))⟩
abbrev nw (a : Ns) (b : Ns) : Lp (Nat) := fG [2,3,5] 2 (fun (i : Nat) => ⟨[(2,(.ptr 0 0 0 0)),(3,(.ptr 1 0 0 0)),(5,(i6 (i : Int)))],[(.var 42 [(dL 2 aY ba a.procs),(dL 1 ac [] a.chans)]),(.var 42 [(dL 2 aY ba b.procs),(dL 1 ac [] b.chans)])]⟩) (fun (i : Nat) => i ≤ a.procs.length∧∀ z,z < i → dW (a.procs.getD z ba) (b.procs.getD z ba) = true) (fun (i : Nat) => a.procs.length - i)
abbrev nx (a : Ns) (b : Ns) : Lp (Nat) := fG [2,3,6] 2 (fun (n : Nat) => ⟨[(2,(.ptr 0 0 0 0)),(3,(.ptr 1 0 0 0)),(6,(i6 (n : Int)))],[(.var 42 [(dL 2 aY ba a.procs),(dL 1 ac [] a.chans)]),(.var 42 [(dL 2 aY ba b.procs),(dL 1 ac [] b.chans)])]⟩) (fun (n : Nat) => n ≤ a.chans.length∧∀ z,z < n → a.chans.getD z [] = b.chans.getD z []) (fun (n : Nat) => a.chans.length - n)
theorem sa (a b : Ns) (hz : Dx a) : CC (KG a b) := by
 obtain ⟨hap,hac,hcb,hpa,hpb,hpc⟩ := hz
 refine af.vc (V := TT 3 (CS ((a.procs.length : Int) = (b.procs.length : Int)) (TT 7 ((True∧(!decide ((a.procs.length : Int) = (b.procs.length : Int))) = false)∧TT 8 (CN ((a.chans.length : Int) = (b.chans.length : Int)) (TT 2 (false = (b5 a b)∧True)) (TT 1 (GO (nw a b) 0 (∀ i,(nw a b).inv i → TT 5 (CD ((i : Int) < (a.procs.length : Int)) (TT 3 (IX (i : Int) a.procs.length∧TT 4 (IX (i : Int) b.procs.length∧TT 1 (CC (Nt (a.procs.getD i ba) (b.procs.getD i ba))∧TT 1 (CB (!(dW (a.procs.getD i ba) (b.procs.getD i ba))) (TT 2 (false = (b5 a b)∧True)) (TT 1 (W6 ((i + 1 : Nat) : Int)∧TT 1 (AG (nw a b) i (i + 1))))))))) (TT 1 (GO (nx a b) 0 (∀ n,(nx a b).inv n → TT 5 (CD ((n : Int) < (a.chans.length : Int)) (TT 3 (IX (n : Int) a.chans.length∧TT 4 (IX (n : Int) b.chans.length∧TT 1 (CC (I4 (a.chans.getD n []) (b.chans.getD n []))∧TT 1 (CN ((a.chans.getD n []) = (b.chans.getD n [])) (TT 2 (false = (b5 a b)∧True)) (TT 1 (W6 ((n + 1 : Nat) : Int)∧TT 1 (AG (nx a b) n (n + 1))))))))) (TT 2 (true = (b5 a b)∧True))))))))))))) (TT 7 ((True∧(!decide ((a.procs.length : Int) = (b.procs.length : Int))) = true)∧TT 10 (false = (b5 a b)∧True))))) (.s 1 ((a.procs.length : Int) = (b.procs.length : Int)) (.w 1 [(7,.val (dB false))] <| .b 22 (.e) (.l (nw a b) 0 (fun i => .b 27 (.w 6 [(10,(Nt (a.procs.getD i ba) (b.procs.getD i ba)).O)] <| .b 41 (.e) (.w 5 [(1,.val (i6 ((i + 1 : Nat) : Int)))] <| .e)) (.l (nx a b) 0 (fun n => .b 46 (.w 11 [(10,(I4 (a.chans.getD n []) (b.chans.getD n [])).O)] <| .b 60 (.e) (.w 10 [(1,.val (i6 ((n + 1 : Nat) : Int)))] <| .e)) (.e)))))) (.w 1 [(7,.val (dB true))] <| .e)) Tryz.func34 rfl rfl rfl (by kernel_rfl) ?_
 refine tt ⟨fun hs0 => ?_,fun hs0 => ?_⟩
 · refine tt ⟨(nF hs0),tt (cn (fun hc22 => ?_) (fun hc22 => ?_))⟩
   · refine tt ⟨?_,oK⟩
     first | exact (iX (by omega)).symm | exact (iY (by omega)).symm | exact (iZ (i := i) (by omega) (by simpa using hc41)).symm | exact (i1 (n := n) (by simpa using hc60)).symm | exact (i2 (by omega) (by omega) (fun z hz => h3 z (by omega)) (fun z hz => h4 z (by omega))).symm
   · refine tt ⟨rfl,⟨by omega,fun z hz => by omega⟩,?_⟩
     intro i hinv
     obtain ⟨hi,h3⟩ := hinv
     refine tt (cd (fun hc27 => ?_) (fun hc27 => ?_))
     · refine tt ⟨ix,tt ⟨ix,tt ⟨(Fb (a.procs.getD i ba) (b.procs.getD i ba) (by have := hpa i; omega) (by have := hpb i; omega) (fun j => by have := hpc i j; omega)),tt ⟨fun hc41 => ?_,fun hc41 => ?_⟩⟩⟩⟩
       · refine tt ⟨?_,oK⟩
         first | exact (iX (by omega)).symm | exact (iY (by omega)).symm | exact (iZ (i := i) (by omega) (by simpa using hc41)).symm | exact (i1 (n := n) (by simpa using hc60)).symm | exact (i2 (by omega) (by omega) (fun z hz => h3 z (by omega)) (fun z hz => h4 z (by omega))).symm
       · refine tt ⟨w6,tt ⟨(i + 1),rfl,?_,(?_ : a.procs.length - (i + 1) < a.procs.length - i)⟩⟩
         · exact ⟨by omega,br h3 (by simpa using hc41)⟩
         · omega
     · refine tt ⟨rfl,⟨by omega,fun z hz => by omega⟩,?_⟩
       intro n hinv
       obtain ⟨hn,h4⟩ := hinv
       refine tt (cd (fun hc46 => ?_) (fun hc46 => ?_))
       · refine tt ⟨ix,tt ⟨ix,tt ⟨(tN (a.chans.getD n []) (b.chans.getD n []) (by have := hcb n; omega)),tt (cn (fun hc60 => ?_) (fun hc60 => ?_))⟩⟩⟩
         · refine tt ⟨?_,oK⟩
           first | exact (iX (by omega)).symm | exact (iY (by omega)).symm | exact (iZ (i := i) (by omega) (by simpa using hc41)).symm | exact (i1 (n := n) (by simpa using hc60)).symm | exact (i2 (by omega) (by omega) (fun z hz => h3 z (by omega)) (fun z hz => h4 z (by omega))).symm
         · refine tt ⟨w6,tt ⟨(n + 1),rfl,?_,(?_ : a.chans.length - (n + 1) < a.chans.length - n)⟩⟩
           · exact ⟨by omega,br h4 (by simpa using hc60)⟩
           · omega
       · refine tt ⟨?_,oK⟩
         first | exact (iX (by omega)).symm | exact (iY (by omega)).symm | exact (iZ (i := i) (by omega) (by simpa using hc41)).symm | exact (i1 (n := n) (by simpa using hc60)).symm | exact (i2 (by omega) (by omega) (fun z hz => h3 z (by omega)) (fun z hz => h4 z (by omega))).symm
 · refine tt ⟨(nT hs0),tt ⟨?_,oK⟩⟩
   first | exact (iX (by omega)).symm | exact (iY (by omega)).symm | exact (iZ (i := i) (by omega) (by simpa using hc41)).symm | exact (i1 (n := n) (by simpa using hc60)).symm | exact (i2 (by omega) (by omega) (fun z hz => h3 z (by omega)) (fun z hz => h4 z (by omega))).symm
end Go.Proofs.YtgmpoenfoacofaaGreat
