/-
  The reference of package network: states, words, single processes.
-/
import Derived.Test.YtgmpoenfoacofaaGreatQNeJ
import Derived.Test.YtgmpoenfoacofaaGreatQBitR
import Derived.Test.YtgmpoenfoacofaaGreatQPrD
namespace Go.Proofs.YtgmpoenfoacofaaGreat
open Go.RowKit
set_option linter.unusedVariables false
set_option linter.unusedSimpArgs false
abbrev kM (c : Ci) : List D := [(dL 6 eO av c.procs),(dL 5 eY ba c.chans)]
abbrev lJ (s : Ns) : List D := [(dL 2 bf bw s.procs),(dL 1 ac [] s.chans)]
set_option maxRecDepth 100000
abbrev HR (l : List Int) (w : Int) : Ct := ⟨46,[(LI l),(i6 w)],false,(dB (cE l w))⟩
abbrev kn (l : List Int) (w : Int) : Lp (Nat) := iP [0,1,5] 0 (fun (i : Nat) => ⟨[(0,(LI l)),(1,(i6 w)),(5,(i6 (i : Int)))],[]⟩) (fun (i : Nat) => i ≤ l.length∧∀ z,z < i → c8 (l.getD z 0) w = true) (fun (i : Nat) => l.length - i)
theorem ko (l : List Int) (w : Int) (hl : l.length ≤ 9223372036854775807) : CC (HR l w) := by
 refine ah.vc (V := TT 2 (GO (kn l w) 0 (∀ i,(kn l w).inv i → TT 4 (CD ((i : Int) < (l.length : Int)) (CS ((l.getD i 0) < 0) (TT 2 (IX (i : Int) l.length∧TT 2 ((True∧(decide ((l.getD i 0) < 0)) = true)∧TT 3 (false = (cE l w)∧True)))) (TT 2 (IX (i : Int) l.length∧TT 2 ((True∧(decide ((l.getD i 0) < 0)) = false)∧TT 2 (IX (i : Int) l.length∧TT 2 (CC (A2 w)∧TT 2 (CD ((l.getD i 0) > (af w)) (TT 2 (false = (cE l w)∧True)) (TT 1 (W6 ((i + 1 : Nat) : Int)∧TT 1 (AG (kn l w) i (i + 1))))))))))) (TT 2 (true = (cE l w)∧True)))))) (.l (kn l w) 0 (fun i => .b 9 (.s 4 ((l.getD i 0) < 0) (.w 4 [(5,.val (dB true))] <| .e) (.w 4 [(5,.val (dB false)),(11,(A2 w).O)] <| .b 25 (.e) (.w 3 [(1,.val (i6 ((i + 1 : Nat) : Int)))] <| .e))) (.e))) Tryz.func46 rfl rfl rfl (by kernel_rfl) ?_
 refine tt ⟨rfl,⟨by omega,fun z hz => by omega⟩,?_⟩
 intro i hinv
 obtain ⟨hi,h3⟩ := hinv
 refine tt (cd (fun hc9 => ?_) (fun hc9 => ?_))
 · refine ⟨fun hs0 => ?_,fun hs0 => ?_⟩
   · refine tt ⟨ix,tt ⟨(vT hs0),tt ⟨?_,oK⟩⟩⟩
     first | exact (mt (i := i) (by omega) (xU hs0)).symm | exact (mt (i := i) (by omega) (xV hc25)).symm | exact (uB (fun z hz => h3 z (by omega))).symm
   · refine tt ⟨ix,tt ⟨(vF hs0),tt ⟨ix,tt ⟨(iy w),tt (cd (fun hc25 => ?_) (fun hc25 => ?_))⟩⟩⟩⟩
     · refine tt ⟨?_,oK⟩
       first | exact (mt (i := i) (by omega) (xU hs0)).symm | exact (mt (i := i) (by omega) (xV hc25)).symm | exact (uB (fun z hz => h3 z (by omega))).symm
     · refine tt ⟨w6,tt ⟨(i + 1),rfl,?_,(?_ : l.length - (i + 1) < l.length - i)⟩⟩
       · exact ⟨by omega,cK h3 (HG hs0 hc25)⟩
       · omega
 · refine tt ⟨?_,oK⟩
   first | exact (mt (i := i) (by omega) (xU hs0)).symm | exact (mt (i := i) (by omega) (xV hc25)).symm | exact (uB (fun z hz => h3 z (by omega))).symm
abbrev D7 (c : Ci) (s : Ns) : Ct := ⟨24,[(.agg (kM c)),(.agg (lJ s))],false,(dB (bN c s))⟩
abbrev kq (c : Ci) (s : Ns) : Lp (Nat) := iP [2,3,5] 2 (fun (i : Nat) => ⟨[(2,(.ptr 0 0 0 0)),(3,(.ptr 1 0 0 0)),(5,(i6 (i : Int)))],[(.var 38 (kM c)),(.var 42 (lJ s))]⟩) (fun (i : Nat) => i ≤ c.procs.length∧∀ z,z < i → bQ (bI c z) (xy s z) = true) (fun (i : Nat) => c.procs.length - i)
abbrev fG (c : Ci) (s : Ns) : Lp (Nat) := iP [2,3,6] 2 (fun (n : Nat) => ⟨[(2,(.ptr 0 0 0 0)),(3,(.ptr 1 0 0 0)),(6,(i6 (n : Int)))],[(.var 38 (kM c)),(.var 42 (lJ s))]⟩) (fun (n : Nat) => n ≤ c.chans.length∧∀ z,z < n → ip c s z = true) (fun (n : Nat) => c.chans.length - n)
theorem fI (c : Ci) (s : Ns) (hc : a8 c) (hsm : ir s 9223372036854775807) : CC (D7 c s) := by
 have hnl := hc.nl
 have hcl := hc.cl
 refine ah.vc (V := TT 3 (CS ((s.procs.length : Int) = (c.procs.length : Int)) (TT 7 ((True∧(!decide ((s.procs.length : Int) = (c.procs.length : Int))) = false)∧TT 8 (CN ((s.chans.length : Int) = (c.chans.length : Int)) (TT 2 (false = (bN c s)∧True)) (TT 1 (GO (kq c s) 0 (∀ i,(kq c s).inv i → TT 5 (CD ((i : Int) < (c.procs.length : Int)) (TT 3 (IX (i : Int) c.procs.length∧TT 4 (IX (i : Int) s.procs.length∧TT 1 (CC (Ma (c.procs.getD i av) (s.procs.getD i bw))∧TT 1 (CB (!(bQ (c.procs.getD i av) (s.procs.getD i bw))) (TT 2 (false = (bN c s)∧True)) (TT 1 (W6 ((i + 1 : Nat) : Int)∧TT 1 (AG (kq c s) i (i + 1))))))))) (TT 1 (GO (fG c s) 0 (∀ n,(fG c s).inv n → TT 5 (CD ((n : Int) < (c.chans.length : Int)) (TT 3 (IX (n : Int) c.chans.length∧TT 3 (CS ((cE (s.chans.getD n []) ((c.chans.getD n ba).w)) = true) (CS (((c.chans.getD n ba).frm) ≥ 0) (CS (((c.chans.getD n ba).dst) ≥ 0) (TT 3 (IX (n : Int) s.chans.length∧TT 3 (CC (HR (s.chans.getD n []) ((c.chans.getD n ba).w))∧TT 1 ((True∧(!(cE (s.chans.getD n []) ((c.chans.getD n ba).w))) = false)∧TT 3 ((True∧(decide (((c.chans.getD n ba).frm) ≥ 0)) = true)∧TT 4 ((True∧(decide (((c.chans.getD n ba).dst) ≥ 0)) = true)∧TT 3 (IX (n : Int) s.chans.length∧TT 7 (CD ((((s.chans.getD n []).length : Nat) : Int) > ((c.chans.getD n ba).cap)) (TT 2 (false = (bN c s)∧True)) (TT 1 (W6 ((n + 1 : Nat) : Int)∧TT 1 (AG (fG c s) n (n + 1)))))))))))) (TT 3 (IX (n : Int) s.chans.length∧TT 3 (CC (HR (s.chans.getD n []) ((c.chans.getD n ba).w))∧TT 1 ((True∧(!(cE (s.chans.getD n []) ((c.chans.getD n ba).w))) = false)∧TT 3 ((True∧(decide (((c.chans.getD n ba).frm) ≥ 0)) = true)∧TT 4 ((True∧(decide (((c.chans.getD n ba).dst) ≥ 0)) = false)∧TT 3 (W6 ((n + 1 : Nat) : Int)∧TT 1 (AG (fG c s) n (n + 1)))))))))) (TT 3 (IX (n : Int) s.chans.length∧TT 3 (CC (HR (s.chans.getD n []) ((c.chans.getD n ba).w))∧TT 1 ((True∧(!(cE (s.chans.getD n []) ((c.chans.getD n ba).w))) = false)∧TT 3 ((True∧(decide (((c.chans.getD n ba).frm) ≥ 0)) = false)∧TT 5 (W6 ((n + 1 : Nat) : Int)∧TT 1 (AG (fG c s) n (n + 1))))))))) (TT 3 (IX (n : Int) s.chans.length∧TT 3 (CC (HR (s.chans.getD n []) ((c.chans.getD n ba).w))∧TT 1 ((True∧(!(cE (s.chans.getD n []) ((c.chans.getD n ba).w))) = true)∧TT 3 (false = (bN c s)∧True)))))))) (TT 2 (true = (bN c s)∧True))))))))))))) (TT 7 ((True∧(!decide ((s.procs.length : Int) = (c.procs.length : Int))) = true)∧TT 10 (false = (bN c s)∧True))))) (.s 1 ((s.procs.length : Int) = (c.procs.length : Int)) (.w 1 [(7,.val (dB false))] <| .b 23 (.e) (.l (kq c s) 0 (fun i => .b 28 (.w 6 [(10,(Ma (c.procs.getD i av) (s.procs.getD i bw)).O)] <| .b 42 (.e) (.w 5 [(1,.val (i6 ((i + 1 : Nat) : Int)))] <| .e)) (.l (fG c s) 0 (fun n => .b 47 (.s 12 ((cE (s.chans.getD n []) ((c.chans.getD n ba).w)) = true) (.s 12 (((c.chans.getD n ba).frm) ≥ 0) (.s 12 (((c.chans.getD n ba).dst) ≥ 0) (.w 12 [(7,(HR (s.chans.getD n []) ((c.chans.getD n ba).w)).O),(9,.val (dB false)),(13,.val (dB true)),(18,.val (dB true))] <| .b 84 (.e) (.w 10 [(1,.val (i6 ((n + 1 : Nat) : Int)))] <| .e)) (.w 12 [(7,(HR (s.chans.getD n []) ((c.chans.getD n ba).w)).O),(9,.val (dB false)),(13,.val (dB true)),(18,.val (dB false))] <| .w 10 [(1,.val (i6 ((n + 1 : Nat) : Int)))] <| .e)) (.w 12 [(7,(HR (s.chans.getD n []) ((c.chans.getD n ba).w)).O),(9,.val (dB false)),(13,.val (dB false))] <| .w 10 [(1,.val (i6 ((n + 1 : Nat) : Int)))] <| .e)) (.w 12 [(7,(HR (s.chans.getD n []) ((c.chans.getD n ba).w)).O),(9,.val (dB true))] <| .e)) (.e)))))) (.w 1 [(7,.val (dB true))] <| .e)) Tryz.func24 rfl rfl rfl (by kernel_rfl) ?_
 refine tt ⟨fun hs0 => ?_,fun hs0 => ?_⟩
 · refine tt ⟨(nF hs0),tt (cn (fun hc23 => ?_) (fun hc23 => ?_))⟩
   · refine tt ⟨?_,oK⟩
     first | exact (qQ (by omega)).symm | exact (qR (by omega)).symm | exact (qS (i := i) (by omega) (by simpa using hc42)).symm | exact (gj (n := n) (by omega) (jw (by assumption))).symm | exact (gj (n := n) (by omega) (jx (by show 0 ≤ (c.chans.getD n ba).frm; omega) (by show 0 ≤ (c.chans.getD n ba).dst; omega) (by show ¬((s.chans.getD n []).length : Int) ≤ (c.chans.getD n ba).cap; omega))).symm | exact (qT (by omega) (by omega) (fun z hz => h3 z (by omega)) (fun z hz => h4 z (by omega))).symm
   · refine tt ⟨rfl,⟨by omega,fun z hz => by omega⟩,?_⟩
     intro i hinv
     obtain ⟨hi,h3⟩ := hinv
     refine tt (cd (fun hc28 => ?_) (fun hc28 => ?_))
     · have hpk := hc.pr i (by omega)
       refine tt ⟨ix,tt ⟨ix,tt ⟨(D4 (c.procs.getD i av) (s.procs.getD i bw) hpk),tt ⟨fun hc42 => ?_,fun hc42 => ?_⟩⟩⟩⟩
       · refine tt ⟨?_,oK⟩
         first | exact (qQ (by omega)).symm | exact (qR (by omega)).symm | exact (qS (i := i) (by omega) (by simpa using hc42)).symm | exact (gj (n := n) (by omega) (jw (by assumption))).symm | exact (gj (n := n) (by omega) (jx (by show 0 ≤ (c.chans.getD n ba).frm; omega) (by show 0 ≤ (c.chans.getD n ba).dst; omega) (by show ¬((s.chans.getD n []).length : Int) ≤ (c.chans.getD n ba).cap; omega))).symm | exact (qT (by omega) (by omega) (fun z hz => h3 z (by omega)) (fun z hz => h4 z (by omega))).symm
       · refine tt ⟨w6,tt ⟨(i + 1),rfl,?_,(?_ : c.procs.length - (i + 1) < c.procs.length - i)⟩⟩
         · exact ⟨by omega,cK h3 (by simpa using hc42)⟩
         · omega
     · refine tt ⟨rfl,⟨by omega,fun z hz => by omega⟩,?_⟩
       intro n hinv
       obtain ⟨hn,h4⟩ := hinv
       refine tt (cd (fun hc47 => ?_) (fun hc47 => ?_))
       · refine tt ⟨ix,tt ?_⟩
         have hlw : (s.chans.getD n []).length ≤ 9223372036854775807 := hsm n
         refine ⟨fun hs1 => ?_,fun hs1 => ?_⟩
         · refine ⟨fun hs2 => ?_,fun hs2 => ?_⟩
           · refine ⟨fun hs3 => ?_,fun hs3 => ?_⟩
             · refine tt ⟨ix,tt ⟨(ko (s.chans.getD n []) ((c.chans.getD n ba).w) hlw),tt ⟨(mF hs1),tt ⟨(vT hs2),tt ⟨(vT hs3),tt ⟨ix,tt (cd (fun hc84 => ?_) (fun hc84 => ?_))⟩⟩⟩⟩⟩⟩
               · refine tt ⟨?_,oK⟩
                 first | exact (qQ (by omega)).symm | exact (qR (by omega)).symm | exact (qS (i := i) (by omega) (by simpa using hc42)).symm | exact (gj (n := n) (by omega) (jw (by assumption))).symm | exact (gj (n := n) (by omega) (jx (by show 0 ≤ (c.chans.getD n ba).frm; omega) (by show 0 ≤ (c.chans.getD n ba).dst; omega) (by show ¬((s.chans.getD n []).length : Int) ≤ (c.chans.getD n ba).cap; omega))).symm | exact (qT (by omega) (by omega) (fun z hz => h3 z (by omega)) (fun z hz => h4 z (by omega))).symm
               · refine tt ⟨w6,tt ⟨(n + 1),rfl,?_,(?_ : c.chans.length - (n + 1) < c.chans.length - n)⟩⟩
                 · refine ⟨by omega,cK h4 ?_⟩
                   first | exact AD (by assumption) (by show ¬0 ≤ (c.chans.getD n ba).frm; omega) | exact AE (by assumption) (by show ¬0 ≤ (c.chans.getD n ba).dst; omega) | exact AF (by assumption) (by show ((s.chans.getD n []).length : Int) ≤ (c.chans.getD n ba).cap; omega)
                 · omega
             · refine tt ⟨ix,tt ⟨(ko (s.chans.getD n []) ((c.chans.getD n ba).w) hlw),tt ⟨(mF hs1),tt ⟨(vT hs2),tt ⟨(vF hs3),tt ⟨w6,tt ⟨(n + 1),rfl,?_,(?_ : c.chans.length - (n + 1) < c.chans.length - n)⟩⟩⟩⟩⟩⟩⟩
               · refine ⟨by omega,cK h4 ?_⟩
                 first | exact AD (by assumption) (by show ¬0 ≤ (c.chans.getD n ba).frm; omega) | exact AE (by assumption) (by show ¬0 ≤ (c.chans.getD n ba).dst; omega) | exact AF (by assumption) (by show ((s.chans.getD n []).length : Int) ≤ (c.chans.getD n ba).cap; omega)
               · omega
           · refine tt ⟨ix,tt ⟨(ko (s.chans.getD n []) ((c.chans.getD n ba).w) hlw),tt ⟨(mF hs1),tt ⟨(vF hs2),tt ⟨w6,tt ⟨(n + 1),rfl,?_,(?_ : c.chans.length - (n + 1) < c.chans.length - n)⟩⟩⟩⟩⟩⟩
             · refine ⟨by omega,cK h4 ?_⟩
               first | exact AD (by assumption) (by show ¬0 ≤ (c.chans.getD n ba).frm; omega) | exact AE (by assumption) (by show ¬0 ≤ (c.chans.getD n ba).dst; omega) | exact AF (by assumption) (by show ((s.chans.getD n []).length : Int) ≤ (c.chans.getD n ba).cap; omega)
             · omega
         · refine tt ⟨ix,tt ⟨(ko (s.chans.getD n []) ((c.chans.getD n ba).w) hlw),tt ⟨(mT hs1),tt ⟨?_,oK⟩⟩⟩⟩
           first | exact (qQ (by omega)).symm | exact (qR (by omega)).symm | exact (qS (i := i) (by omega) (by simpa using hc42)).symm | exact (gj (n := n) (by omega) (jw (by assumption))).symm | exact (gj (n := n) (by omega) (jx (by show 0 ≤ (c.chans.getD n ba).frm; omega) (by show 0 ≤ (c.chans.getD n ba).dst; omega) (by show ¬((s.chans.getD n []).length : Int) ≤ (c.chans.getD n ba).cap; omega))).symm | exact (qT (by omega) (by omega) (fun z hz => h3 z (by omega)) (fun z hz => h4 z (by omega))).symm
       · refine tt ⟨?_,oK⟩
         first | exact (qQ (by omega)).symm | exact (qR (by omega)).symm | exact (qS (i := i) (by omega) (by simpa using hc42)).symm | exact (gj (n := n) (by omega) (jw (by assumption))).symm | exact (gj (n := n) (by omega) (jx (by show 0 ≤ (c.chans.getD n ba).frm; omega) (by show 0 ≤ (c.chans.getD n ba).dst; omega) (by show ¬((s.chans.getD n []).length : Int) ≤ (c.chans.getD n ba).cap; omega))).symm | exact (qT (by omega) (by omega) (fun z hz => h3 z (by omega)) (fun z hz => h4 z (by omega))).symm
 · refine tt ⟨(nT hs0),tt ⟨?_,oK⟩⟩
   first | exact (qQ (by omega)).symm | exact (qR (by omega)).symm | exact (qS (i := i) (by omega) (by simpa using hc42)).symm | exact (gj (n := n) (by omega) (jw (by assumption))).symm | exact (gj (n := n) (by omega) (jx (by show 0 ≤ (c.chans.getD n ba).frm; omega) (by show 0 ≤ (c.chans.getD n ba).dst; omega) (by show ¬((s.chans.getD n []).length : Int) ≤ (c.chans.getD n ba).cap; omega))).symm | exact (qT (by omega) (by omega) (fun z hz => h3 z (by omega)) (fun z hz => h4 z (by omega))).symm
abbrev Md (c : Ci) : Ct := ⟨52,[(.agg (kM c))],true,(.agg [(dL 2 bf bw ((aD c).procs)),(dL 1 ac [] ((aD c).chans))])⟩
abbrev mE (c : Ci) : Lp (Nat) := iP [1,2,3,4] 5 (fun (i : Nat) => ⟨[(1,(.ptr 0 0 0 0)),(2,(.ptr 1 0 0 0)),(3,(.ptr 3 0 0 0)),(4,(i6 (i : Int)))],[(.var 38 (kM c)),(.var 42 [.nils,.nils]),(.arr 28 1 ac [] (List.replicate c.chans.length ([] : List Int))),(.var 42 [(.own 4),(.own 2)]),(.arr 112 2 bf bw (tab (fun i => aR (bI c i)) i))]⟩) (fun (i : Nat) => i ≤ c.procs.length) (fun (i : Nat) => c.procs.length - i)
theorem D8 (c : Ci) (hc : a8 c) : CC (Md c) := by
 have hnl := hc.nl
 have hcl := hc.cl
 refine ah.vc (V := TT 5 ((((0 : Int) ≤ (c.chans.length : Int)∧(c.chans.length : Int) ≤ (c.chans.length : Int)∧(c.chans.length : Int) ≤ 137438953472)∧(List.replicate c.chans.length ([] : List Int)).length = c.chans.length∧∀ x ∈ (List.replicate c.chans.length ([] : List Int)),cO [.nils] (ac x))∧TT 4 (GO (mE c) 0 (∀ i,(mE c).inv i → TT 5 (CD ((i : Int) < (c.procs.length : Int)) (TT 5 (IX (i : Int) c.procs.length∧TT 1 (CC (Mb (c.procs.getD i av))∧an [[(LI ((aR (c.procs.getD i av)).regs)),(dL 1 ac [] ((aR (c.procs.getD i av)).mems))]] ([(⟨(aR (c.procs.getD i av)).regs,(aR (c.procs.getD i av)).mems⟩ : Ps)].map bf)∧((tab (fun i => aR (bI c i)) i).length + ([(⟨(aR (c.procs.getD i av)).regs,(aR (c.procs.getD i av)).mems⟩ : Ps)].map bf).length ≤ 137438953472∧(tab (fun i => aR (bI c i)) i).map bf ++ [(⟨(aR (c.procs.getD i av)).regs,(aR (c.procs.getD i av)).mems⟩ : Ps)].map bf = (tab (fun i => aR (bI c i)) (i + 1)).map bf)∧TT 3 (W6 ((i + 1 : Nat) : Int)∧TT 1 (AG (mE c) i (i + 1)))))) (TT 3 ((tab (fun i => aR (bI c i)) i).map bf = ((aD c).procs).map bf∧(List.replicate c.chans.length ([] : List Int)).map ac = ((aD c).chans).map ac∧True))))))) (.w 1 [(3,.box 28 1 ac [] (List.replicate c.chans.length ([] : List Int)))] <| .g 2 3 0 112 2 bf bw <| .l (mE c) 0 (fun i => .b 14 (.w 5 [(7,(Mb (c.procs.getD i av)).O),(8,.box 112 2 bf bw [(⟨(aR (c.procs.getD i av)).regs,(aR (c.procs.getD i av)).mems⟩ : Ps)]),(9,.box 112 2 bf bw (tab (fun i => aR (bI c i)) (i + 1)))] <| .w 4 [(1,.val (i6 ((i + 1 : Nat) : Int)))] <| .e) (.e))) Tryz.func52 rfl rfl rfl (by kernel_rfl) ?_
 refine tt ⟨⟨by omega,by simp,fun x hx => by rw [List.eq_of_mem_replicate hx]; exact ⟨rfl,oK⟩⟩,tt ⟨rfl,(by omega),?_⟩⟩
 intro i hinv
 have hi := hinv
 refine tt (cd (fun hc14 => ?_) (fun hc14 => ?_))
 · have hpk := hc.pr i (by omega)
   refine tt ⟨ix,tt ⟨(D5 (c.procs.getD i av) hpk),⟨⟨⟨rfl,rfl,oK⟩,oK⟩,⟨(gH (f := fun i => aR (bI c i)) (by omega)),tt ⟨w6,tt ⟨(i + 1),rfl,(?_ : (i + 1) ≤ c.procs.length),(?_ : c.procs.length - (i + 1) < c.procs.length - i)⟩⟩⟩⟩⟩⟩
   · omega
   · omega
 · refine tt ⟨(congrArg _ (?_ : (tab (fun i => aR (bI c i)) i) = ((aD c).procs))),(congrArg _ (?_ : (List.replicate c.chans.length ([] : List Int)) = ((aD c).chans))),oK⟩
   · rw [show i = c.procs.length by omega]; rfl
   · rfl
abbrev Me (s : Ns) (n : Int) (l : List Int) : Ct := ⟨56,[(.agg (lJ s)),(i6 n),(LI l)],true,(.agg [(dL 2 bf bw ((fg s n.toNat l).procs)),(dL 1 ac [] ((fg s n.toNat l).chans))])⟩
theorem HS (s : Ns) (n : Int) (l : List Int) (h1 : 0 ≤ n) (h2 : n < s.chans.length) (h3 : s.chans.length ≤ 1000000) : CC (Me s n l) := by
 refine ah.vc (V := TT 4 (an [] (([] : List (List Int)).map ac)∧TT 2 ((([] : List (List Int)).length + (s.chans.map ac).length ≤ 137438953472∧([] : List (List Int)).map ac ++ s.chans.map ac = s.chans.map ac)∧TT 7 (IX n s.chans.length∧(n.toNat < s.chans.length∧(s.chans.map ac).set n.toNat ((ac (s.chans.getD n.toNat [])).take 0 ++ [(.sl 1 (ae .i64) 0 l)] ++ (ac (s.chans.getD n.toNat [])).drop (0 + 1)) = (s.chans.set n.toNat l).map ac)∧TT 3 (s.procs.map bf = ((fg s n.toNat l).procs).map bf∧(s.chans.set n.toNat l).map ac = ((fg s n.toNat l).chans).map ac∧True))))) (.w 1 [(2,.app false 28 1 ac [] ([] : List (List Int))),(5,.app false 28 1 ac [] s.chans)] <| .w 2 [(5,.box 28 1 ac [] (s.chans.set n.toNat l))] <| .e) Tryz.func56 rfl rfl rfl (by kernel_rfl) ?_
 refine tt ⟨oK,tt ⟨⟨by simp only [List.length_map,List.length_cons,List.length_nil,List.length_append,List.length_drop,List.length_take]; first | omega | (simp; first | done | omega),by simp only [List.map_append,List.map_nil,List.append_nil,List.nil_append]⟩,tt ⟨ix,⟨⟨om,by simp only [List.map_set]; rfl⟩,tt ⟨(congrArg _ (?_ : s.procs = ((fg s n.toNat l).procs))),(congrArg _ (?_ : (s.chans.set n.toNat l) = ((fg s n.toNat l).chans))),oK⟩⟩⟩⟩⟩
 all_goals (rfl)
abbrev Mf (c : Ci) (s : Ns) (p : Nat) : Ct := ⟨96,[(.agg (kM c)),(.agg (lJ s)),(i6 (p : Int))],true,(.agg [(dL 2 bO aU (ck c s p)),(LB (cR c s p))])⟩
abbrev lK (c : Ci) (s : Ns) (p : Nat) : Lp (Nat) := iP [2,3,4,6,7,8] 5 (fun (i : Nat) => ⟨[(2,(i6 (p : Int))),(3,(.ptr 0 0 0 0)),(4,(.ptr 1 0 0 0)),(6,(.ptr 2 0 0 0)),(7,(.ptr 3 0 0 0)),(8,(i6 (i : Int)))],[(.var 38 (kM c)),(.var 42 (lJ s)),(.var 196 [.nils,.nils]),(.var 196 [(.own 4),.nils]),(.arr 182 2 bO aU (tab (bS c s p) i))]⟩) (fun (i : Nat) => i ≤ (c.procs.getD p av).takes.length) (fun (i : Nat) => (c.procs.getD p av).takes.length - i)
abbrev lL (c : Ci) (s : Ns) (p : Nat) (i : Nat) : Lp (Nat) := iP [2,3,4,6,7,11] 6 (fun (m : Nat) => ⟨[(2,(i6 (p : Int))),(3,(.ptr 0 0 0 0)),(4,(.ptr 1 0 0 0)),(6,(.ptr 2 0 0 0)),(7,(.ptr 3 0 0 0)),(11,(i6 (m : Int)))],[(.var 38 (kM c)),(.var 42 (lJ s)),(.var 196 [.nils,.nils]),(.var 196 [(.own 4),(.own 5)]),(.arr 182 2 bO aU (tab (bS c s p) i)),(.arr 4 1 aQ false (tab (bU c s p) m))]⟩) (fun (m : Nat) => m ≤ (c.procs.getD p av).puts.length) (fun (m : Nat) => (c.procs.getD p av).puts.length - m)
theorem Gq (c : Ci) (s : Ns) (p : Nat) (hc : a8 c) (hs : bG c s) (hp : p < c.procs.length) : CC (Mf c s p) := by
 have hnl := hc.nl
 have hcl := hc.cl
 have hpk : fV (c.procs.getD p av) := hc.pr p hp
 have hl1 := hs.pl
 have hl2 := hs.cl
 have ht1 : (c.procs.getD p av).takes.length ≤ 100 := hpk.tl
 have ht2 : (c.procs.getD p av).puts.length ≤ 100 := hpk.pl
 refine ah.vc (V := TT 7 (GO (lK c s p) 0 (∀ i,(lK c s p).inv i → TT 4 (IX (p : Int) c.procs.length∧TT 4 (CD ((i : Int) < ((((c.procs.getD p av).takes).length : Nat) : Int)) (TT 5 (IX (p : Int) c.procs.length∧TT 3 (IX (i : Int) (((c.procs.getD p av).takes).length)∧TT 2 (IX ((((c.procs.getD p av).takes).getD i bJ).chan) s.chans.length∧TT 8 (CD ((((s.chans.getD (((((c.procs.getD p av).takes).getD i bJ).chan).toNat) []).length : Nat) : Int) > 0) (TT 1 (IX 0 ((s.chans.getD (((((c.procs.getD p av).takes).getD i bJ).chan).toNat) []).length)∧TT 6 (an [[(dB true),(i6 ((s.chans.getD (((((c.procs.getD p av).takes).getD i bJ).chan).toNat) []).getD 0 0))]] ([(⟨true,((s.chans.getD (((((c.procs.getD p av).takes).getD i bJ).chan).toNat) []).getD 0 0)⟩ : Hd)].map bO)∧((tab (bS c s p) i).length + ([(⟨true,((s.chans.getD (((((c.procs.getD p av).takes).getD i bJ).chan).toNat) []).getD 0 0)⟩ : Hd)].map bO).length ≤ 137438953472∧(tab (bS c s p) i).map bO ++ [(⟨true,((s.chans.getD (((((c.procs.getD p av).takes).getD i bJ).chan).toNat) []).getD 0 0)⟩ : Hd)].map bO = (tab (bS c s p) (i + 1)).map bO)∧TT 3 (W6 ((i + 1 : Nat) : Int)∧TT 1 (AG (lK c s p) i (i + 1)))))) (TT 3 (an [[(dB false),(i6 0)]] ([(⟨false,0⟩ : Hd)].map bO)∧((tab (bS c s p) i).length + ([(⟨false,0⟩ : Hd)].map bO).length ≤ 137438953472∧(tab (bS c s p) i).map bO ++ [(⟨false,0⟩ : Hd)].map bO = (tab (bS c s p) (i + 1)).map bO)∧TT 3 (W6 ((i + 1 : Nat) : Int)∧TT 1 (AG (lK c s p) i (i + 1)))))))))) (TT 1 (GO (lL c s p i) 0 (∀ m,(lL c s p i).inv m → TT 4 (IX (p : Int) c.procs.length∧TT 4 (CD ((m : Int) < ((((c.procs.getD p av).puts).length : Nat) : Int)) (TT 3 (IX (p : Int) c.procs.length∧TT 3 (IX (m : Int) (((c.procs.getD p av).puts).length)∧TT 3 (CS (((c.chans.getD (((((c.procs.getD p av).puts).getD m bn).chan).toNat) ba).dst) = (-1)) (TT 5 (IX ((((c.procs.getD p av).puts).getD m bn).chan) c.chans.length∧TT 3 ((True∧(decide (((c.chans.getD (((((c.procs.getD p av).puts).getD m bn).chan).toNat) ba).dst) = (-1))) = true)∧TT 1 (an [[(dB true)]] ([true].map aQ)∧((tab (bU c s p) m).length + ([true].map aQ).length ≤ 137438953472∧(tab (bU c s p) m).map aQ ++ [true].map aQ = (tab (bU c s p) (m + 1)).map aQ)∧TT 3 (W6 ((m + 1 : Nat) : Int)∧TT 1 (AG (lL c s p i) m (m + 1))))))) (TT 5 (IX ((((c.procs.getD p av).puts).getD m bn).chan) c.chans.length∧TT 3 ((True∧(decide (((c.chans.getD (((((c.procs.getD p av).puts).getD m bn).chan).toNat) ba).dst) = (-1))) = false)∧TT 3 (IX ((((c.procs.getD p av).puts).getD m bn).chan) s.chans.length∧TT 5 (IX ((((c.procs.getD p av).puts).getD m bn).chan) c.chans.length∧TT 4 (an [[(dB (decide ((((s.chans.getD (((((c.procs.getD p av).puts).getD m bn).chan).toNat) []).length : Nat) : Int) < ((c.chans.getD (((((c.procs.getD p av).puts).getD m bn).chan).toNat) ba).cap))))]] ([decide ((((s.chans.getD (((((c.procs.getD p av).puts).getD m bn).chan).toNat) []).length : Nat) : Int) < ((c.chans.getD (((((c.procs.getD p av).puts).getD m bn).chan).toNat) ba).cap))].map aQ)∧((tab (bU c s p) m).length + ([decide ((((s.chans.getD (((((c.procs.getD p av).puts).getD m bn).chan).toNat) []).length : Nat) : Int) < ((c.chans.getD (((((c.procs.getD p av).puts).getD m bn).chan).toNat) ba).cap))].map aQ).length ≤ 137438953472∧(tab (bU c s p) m).map aQ ++ [decide ((((s.chans.getD (((((c.procs.getD p av).puts).getD m bn).chan).toNat) []).length : Nat) : Int) < ((c.chans.getD (((((c.procs.getD p av).puts).getD m bn).chan).toNat) ba).cap))].map aQ = (tab (bU c s p) (m + 1)).map aQ)∧TT 3 (W6 ((m + 1 : Nat) : Int)∧TT 1 (AG (lL c s p i) m (m + 1))))))))))))) (TT 3 ((tab (bS c s p) i).map bO = (ck c s p).map bO∧(tab (bU c s p) m).map aQ = (cR c s p).map aQ∧True)))))))))))) (.g 2 3 0 182 2 bO aU <| .l (lK c s p) 0 (fun i => .b 22 (.b 42 (.w 9 [(3,.box 182 2 bO aU [(⟨true,((s.chans.getD (((((c.procs.getD p av).takes).getD i bJ).chan).toNat) []).getD 0 0)⟩ : Hd)]),(4,.box 182 2 bO aU (tab (bS c s p) (i + 1)))] <| .w 4 [(1,.val (i6 ((i + 1 : Nat) : Int)))] <| .e) (.w 9 [(3,.box 182 2 bO aU [(⟨false,0⟩ : Hd)]),(4,.box 182 2 bO aU (tab (bS c s p) (i + 1)))] <| .w 4 [(1,.val (i6 ((i + 1 : Nat) : Int)))] <| .e)) (.g 10 3 1 4 1 aQ false <| .l (lL c s p i) 0 (fun m => .b 61 (.s 14 (((c.chans.getD (((((c.procs.getD p av).puts).getD m bn).chan).toNat) ba).dst) = (-1)) (.w 14 [(9,.val (dB true)),(24,.box 4 1 aQ false [true]),(25,.box 4 1 aQ false (tab (bU c s p) (m + 1)))] <| .w 12 [(1,.val (i6 ((m + 1 : Nat) : Int)))] <| .e) (.w 14 [(9,.val (dB false)),(24,.box 4 1 aQ false [decide ((((s.chans.getD (((((c.procs.getD p av).puts).getD m bn).chan).toNat) []).length : Nat) : Int) < ((c.chans.getD (((((c.procs.getD p av).puts).getD m bn).chan).toNat) ba).cap))]),(25,.box 4 1 aQ false (tab (bU c s p) (m + 1)))] <| .w 12 [(1,.val (i6 ((m + 1 : Nat) : Int)))] <| .e)) (.e))))) Tryz.func96 rfl rfl rfl (by kernel_rfl) ?_
 refine tt ⟨rfl,(by omega),?_⟩
 intro i hinv
 have hi := hinv
 refine tt ⟨ix,tt (cd (fun hc22 => ?_) (fun hc22 => ?_))⟩
 · have htk : 0 ≤ ((c.procs.getD p av).takes.getD i bJ).chan∧((c.procs.getD p av).takes.getD i bJ).chan < c.chans.length := ⟨(hc.tk p hp i (show i < (c.procs.getD p av).takes.length by omega)).1,(hc.tk p hp i (show i < (c.procs.getD p av).takes.length by omega)).2.1⟩
   refine tt ⟨ix,tt ⟨ix,tt ⟨ix,tt (cd (fun hc42 => ?_) (fun hc42 => ?_))⟩⟩⟩
   · refine tt ⟨ix,tt ⟨⟨⟨rfl,rfl,oK⟩,oK⟩,⟨(bp (by omega) (by first | exact (if_pos (show 0 < (s.chans.getD ((c.procs.getD p av).takes.getD i bJ).chan.toNat []).length by omega)).symm | exact (if_neg (show ¬0 < (s.chans.getD ((c.procs.getD p av).takes.getD i bJ).chan.toNat []).length by omega)).symm)),tt ⟨w6,tt ⟨(i + 1),rfl,(?_ : (i + 1) ≤ (c.procs.getD p av).takes.length),(?_ : (c.procs.getD p av).takes.length - (i + 1) < (c.procs.getD p av).takes.length - i)⟩⟩⟩⟩⟩
     · omega
     · omega
   · refine tt ⟨⟨⟨rfl,rfl,oK⟩,oK⟩,⟨(bp (by omega) (by first | exact (if_pos (show 0 < (s.chans.getD ((c.procs.getD p av).takes.getD i bJ).chan.toNat []).length by omega)).symm | exact (if_neg (show ¬0 < (s.chans.getD ((c.procs.getD p av).takes.getD i bJ).chan.toNat []).length by omega)).symm)),tt ⟨w6,tt ⟨(i + 1),rfl,(?_ : (i + 1) ≤ (c.procs.getD p av).takes.length),(?_ : (c.procs.getD p av).takes.length - (i + 1) < (c.procs.getD p av).takes.length - i)⟩⟩⟩⟩
     · omega
     · omega
 · refine tt ⟨rfl,(by omega),?_⟩
   intro m hinv
   have hm := hinv
   refine tt ⟨ix,tt (cd (fun hc61 => ?_) (fun hc61 => ?_))⟩
   · have hpt : 0 ≤ ((c.procs.getD p av).puts.getD m bn).chan∧((c.procs.getD p av).puts.getD m bn).chan < c.chans.length := ⟨(hc.pt p hp m (show m < (c.procs.getD p av).puts.length by omega)).1,(hc.pt p hp m (show m < (c.procs.getD p av).puts.length by omega)).2.1⟩
     refine tt ⟨ix,tt ⟨ix,tt ⟨fun hs0 => ?_,fun hs0 => ?_⟩⟩⟩
     · refine tt ⟨ix,tt ⟨(vT hs0),tt ⟨⟨⟨rfl,oK⟩,oK⟩,⟨(bp (by omega) (by first | exact (xI hs0).symm | exact (lw hs0).symm | exact (lw hs1).symm)),tt ⟨w6,tt ⟨(m + 1),rfl,(?_ : (m + 1) ≤ (c.procs.getD p av).puts.length),(?_ : (c.procs.getD p av).puts.length - (m + 1) < (c.procs.getD p av).puts.length - m)⟩⟩⟩⟩⟩⟩
       · omega
       · omega
     · refine tt ⟨ix,tt ⟨(vF hs0),tt ⟨ix,tt ⟨ix,tt ⟨⟨⟨rfl,oK⟩,oK⟩,⟨(bp (by omega) (by first | exact (xI hs0).symm | exact (lw hs0).symm | exact (lw hs1).symm)),tt ⟨w6,tt ⟨(m + 1),rfl,(?_ : (m + 1) ≤ (c.procs.getD p av).puts.length),(?_ : (c.procs.getD p av).puts.length - (m + 1) < (c.procs.getD p av).puts.length - m)⟩⟩⟩⟩⟩⟩⟩⟩
       · omega
       · omega
   · refine tt ⟨(congrArg _ (?_ : (tab (bS c s p) i) = (ck c s p))),(congrArg _ (?_ : (tab (bU c s p) m) = (cR c s p))),oK⟩
     · rw [show i = (c.procs.getD p av).takes.length by omega]; rfl
     · rw [show m = (c.procs.getD p av).puts.length by omega]; rfl
abbrev KO (c : Ci) (s : Ns) (p : Nat) : Ct := ⟨82,[(.agg (kM c)),(.agg (lJ s)),(i6 (p : Int))],true,(.agg [(dB ((ab c s p).fires)),(LI (((ab c s p).s).regs)),(dL 1 ac [] (((ab c s p).s).mems)),(LB ((ab c s p).pops)),(dL 2 bO aU ((ab c s p).puts))])⟩
theorem ww (c : Ci) (s : Ns) (p : Nat) (hc : a8 c) (hs : bG c s) (hp : p < c.procs.length) : CC (KO c s p) := by
 have hnl := hc.nl
 have hcl := hc.cl
 have hpk : fV (c.procs.getD p av) := hc.pr p hp
 have hl1 := hs.pl
 have hl2 := hs.cl
 have ht1 : (c.procs.getD p av).takes.length ≤ 100 := hpk.tl
 have ht2 : (c.procs.getD p av).puts.length ≤ 100 := hpk.pl
 refine ah.vc (V := TT 6 (IX (p : Int) c.procs.length∧TT 4 (IX (p : Int) s.procs.length∧TT 4 (CC (Mf c s p)∧CC (Mc (c.procs.getD p av) (s.procs.getD p bw) (ck c s p) (cR c s p))∧TT 2 (((aK (c.procs.getD p av) (s.procs.getD p bw) (ck c s p) (cR c s p)).fires) = ((ab c s p).fires)∧(((aK (c.procs.getD p av) (s.procs.getD p bw) (ck c s p) (cR c s p)).s).regs).map (ae .i64) = (((ab c s p).s).regs).map (ae .i64)∧(((aK (c.procs.getD p av) (s.procs.getD p bw) (ck c s p) (cR c s p)).s).mems).map ac = (((ab c s p).s).mems).map ac∧((aK (c.procs.getD p av) (s.procs.getD p bw) (ck c s p) (cR c s p)).pops).map aQ = ((ab c s p).pops).map aQ∧((aK (c.procs.getD p av) (s.procs.getD p bw) (ck c s p) (cR c s p)).puts).map bO = ((ab c s p).puts).map bO∧True))))) (.w 1 [(13,(Mf c s p).O),(14,(Mc (c.procs.getD p av) (s.procs.getD p bw) (ck c s p) (cR c s p)).O)] <| .e) Tryz.func82 rfl rfl rfl (by kernel_rfl) ?_
 refine tt ⟨ix,tt ⟨ix,tt ⟨(Gq c s p hc hs hp),⟨(D6 (c.procs.getD p av) (s.procs.getD p bw) (ck c s p) (cR c s p) hpk (hs.pv p hp) (pu hc hs hp) (by rw [cR,aJ])),tt ⟨?_,(congrArg _ (?_ : (((aK (c.procs.getD p av) (s.procs.getD p bw) (ck c s p) (cR c s p)).s).regs) = (((ab c s p).s).regs))),(congrArg _ (?_ : (((aK (c.procs.getD p av) (s.procs.getD p bw) (ck c s p) (cR c s p)).s).mems) = (((ab c s p).s).mems))),(congrArg _ (?_ : ((aK (c.procs.getD p av) (s.procs.getD p bw) (ck c s p) (cR c s p)).pops) = ((ab c s p).pops))),(congrArg _ (?_ : ((aK (c.procs.getD p av) (s.procs.getD p bw) (ck c s p) (cR c s p)).puts) = ((ab c s p).puts))),oK⟩⟩⟩⟩⟩
 all_goals (rfl)
abbrev KP (c : Ci) (s : Ns) (p : Int) : Ct := ⟨69,[(.agg (kM c)),(.agg (lJ s)),(i6 p)],false,(dB (gI c s p))⟩
theorem CG (c : Ci) (s : Ns) (p : Int) (hc : a8 c) (hs : bG c s) : CC (KP c s p) := by
 have hnl := hc.nl
 have hcl := hc.cl
 refine ah.vc (V := TT 3 (CS (p ≥ 0) (CS (p < (c.procs.length : Int)) (TT 2 ((True∧(decide (p ≥ 0)) = true)∧TT 6 ((True∧(decide (p < (c.procs.length : Int))) = true)∧TT 2 ((True∧p = (p.toNat : Int))∧CC (KO c s p.toNat)∧TT 4 (((ab c s p.toNat).fires) = (gI c s p)∧True))))) (TT 2 ((True∧(decide (p ≥ 0)) = true)∧TT 6 ((True∧(decide (p < (c.procs.length : Int))) = false)∧TT 8 (false = (gI c s p)∧True))))) (TT 2 ((True∧(decide (p ≥ 0)) = false)∧TT 15 (false = (gI c s p)∧True))))) (.s 1 (p ≥ 0) (.s 1 (p < (c.procs.length : Int)) (.w 1 [(2,.val (dB true)),(9,.val (dB true)),(12,.val (i6 (p.toNat : Int))),(13,(KO c s p.toNat).O)] <| .e) (.w 1 [(2,.val (dB true)),(9,.val (dB false))] <| .e)) (.w 1 [(2,.val (dB false))] <| .e)) Tryz.func69 rfl rfl rfl (by kernel_rfl) ?_
 refine tt ⟨fun hs0 => ?_,fun hs0 => ?_⟩
 · refine ⟨fun hs1 => ?_,fun hs1 => ?_⟩
   · refine tt ⟨(vT hs0),tt ⟨(vT hs1),tt ⟨⟨oK,(by omega)⟩,⟨(ww c s p.toNat hc hs (by omega)),tt ⟨?_,oK⟩⟩⟩⟩⟩
     first | exact (t8 (by omega)).symm | exact (t9 (by omega)).symm | exact (sy (by omega) (by omega)).symm
   · refine tt ⟨(vT hs0),tt ⟨(vF hs1),tt ⟨?_,oK⟩⟩⟩
     first | exact (t8 (by omega)).symm | exact (t9 (by omega)).symm | exact (sy (by omega) (by omega)).symm
 · refine tt ⟨(vF hs0),tt ⟨?_,oK⟩⟩
   first | exact (t8 (by omega)).symm | exact (t9 (by omega)).symm | exact (sy (by omega) (by omega)).symm
abbrev KQ (c : Ci) (s : Ns) : Ct := ⟨47,[(.agg (kM c)),(.agg (lJ s))],false,(i6 (aV c s))⟩
abbrev mG (c : Ci) (s : Ns) : Lp (Nat) := iP [2,3,5] 2 (fun (p : Nat) => ⟨[(2,(.ptr 0 0 0 0)),(3,(.ptr 1 0 0 0)),(5,(i6 (p : Int)))],[(.var 38 (kM c)),(.var 42 (lJ s))]⟩) (fun (p : Nat) => p ≤ c.procs.length∧fy c s (c.procs.length - p) p = aV c s) (fun (p : Nat) => c.procs.length - p)
theorem wy (c : Ci) (s : Ns) (hc : a8 c) (hs : bG c s) : CC (KQ c s) := by
 have hnl := hc.nl
 have hcl := hc.cl
 refine ah.vc (V := TT 4 (GO (mG c s) 0 (∀ p,(mG c s).inv p → TT 5 (CD ((p : Int) < (c.procs.length : Int)) (TT 3 (CC (KP c s (p : Int))∧CB (gI c s (p : Int)) (TT 3 ((p : Int) = (aV c s)∧True)) (TT 1 (W6 ((p + 1 : Nat) : Int)∧TT 1 (AG (mG c s) p (p + 1)))))) (TT 2 ((-1) = (aV c s)∧True)))))) (.l (mG c s) 0 (fun p => .b 10 (.w 4 [(3,(KP c s (p : Int)).O)] <| .b 16 (.e) (.w 3 [(1,.val (i6 ((p + 1 : Nat) : Int)))] <| .e)) (.e))) Tryz.func47 rfl rfl rfl (by kernel_rfl) ?_
 refine tt ⟨rfl,⟨by omega,rfl⟩,?_⟩
 intro p hinv
 obtain ⟨hp,hfk⟩ := hinv
 refine tt (cd (fun hc10 => ?_) (fun hc10 => ?_))
 · refine tt ⟨(CG c s (p : Int) hc hs),⟨fun hc16 => ?_,fun hc16 => ?_⟩⟩
   · refine tt ⟨?_,oK⟩
     rw [← hfk]; first | exact (t2 (by omega) (by rw [← xM (by omega)]; exact hc16)).symm | exact (t4 (by omega)).symm
   · refine tt ⟨w6,tt ⟨(p + 1),rfl,?_,(?_ : c.procs.length - (p + 1) < c.procs.length - p)⟩⟩
     · exact ⟨by omega,by rw [← hfk]; exact (DI (by omega) (by rw [← xM (by omega),hc16]; simp)).symm⟩
     · omega
 · refine tt ⟨?_,oK⟩
   rw [← hfk]; first | exact (t2 (by omega) (by rw [← xM (by omega)]; exact hc16)).symm | exact (t4 (by omega)).symm
end Go.Proofs.YtgmpoenfoacofaaGreat
