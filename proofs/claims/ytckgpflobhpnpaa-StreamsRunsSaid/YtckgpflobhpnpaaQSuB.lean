/-
  Package streams: prefixes, differences, valid inputs.
-/
import Derived.Test.YtckgpflobhpnpaaQSuA
import Derived.Test.YtckgpflobhpnpaaQStE
namespace Go.Proofs.Ytckgpflobhpnpaa
open Go.RowKit
set_option linter.unusedVariables false
set_option linter.unusedSimpArgs false
abbrev GL (c : Ci) (n : Nat) : D := (.fn (.func 46) [] [(.iptr [(.sl 6 iB ac c.procs),(.sl 5 gM cb c.chans)] 0),(.iptr [(.int .i64 (n : Int))] 0)])
set_option maxRecDepth 100000
abbrev L0 (a b : List Int) : Ct := ⟨27,[(LI a),(LI b)],false,(i6 (((dk a b) : Nat) : Int))⟩
abbrev tI (a : List Int) (b : List Int) : Lp (Nat) := oS [0,1,5] 0 (fun (n : Nat) => ⟨[(0,(LI a)),(1,(LI b)),(5,(i6 (n : Int)))],[]⟩) (fun (n : Nat) => n ≤ a.length∧n ≤ b.length∧∀ j,j < n → a.getD j 0 = b.getD j 0) (fun (n : Nat) => a.length - n)
theorem Db (a b : List Int) (ha : a.length ≤ 9223372036854775807) : CC (L0 a b) := by
 refine ai.vc (V := TT 2 (GO (tI a b) 0 (∀ n,(tI a b).inv n → CS ((n : Int) < (((min a.length b.length) : Nat) : Int)) (TT 5 ((True∧(sV (a.length : Int) (b.length : Int)) = (((min a.length b.length) : Nat) : Int))∧TT 1 ((True∧(decide ((n : Int) < (((min a.length b.length) : Nat) : Int))) = true)∧TT 2 (IX (n : Int) a.length∧TT 3 (IX (n : Int) b.length∧TT 3 (CD ((a.getD n 0) = (b.getD n 0)) (TT 1 (W6 ((n + 1 : Nat) : Int)∧TT 1 (AG (tI a b) n (n + 1)))) (TT 3 ((n : Int) = (((dk a b) : Nat) : Int)∧True)))))))) (TT 5 ((True∧(sV (a.length : Int) (b.length : Int)) = (((min a.length b.length) : Nat) : Int))∧TT 1 ((True∧(decide ((n : Int) < (((min a.length b.length) : Nat) : Int))) = false)∧TT 4 ((n : Int) = (((dk a b) : Nat) : Int)∧True))))))) (.l (tI a b) 0 (fun n => .s 2 ((n : Int) < (((min a.length b.length) : Nat) : Int)) (.w 2 [(5,.val (i6 (((min a.length b.length) : Nat) : Int))),(7,.val (dB true))] <| .b 23 (.w 3 [(1,.val (i6 ((n + 1 : Nat) : Int)))] <| .e) (.e)) (.w 2 [(5,.val (i6 (((min a.length b.length) : Nat) : Int))),(7,.val (dB false))] <| .e))) Try.func27 rfl rfl rfl (by kernel_rfl) ?_
 refine tt ⟨rfl,⟨by omega,by omega,fun j hj => by omega⟩,?_⟩
 intro n hinv
 obtain ⟨hn1,hn2,hn3⟩ := hinv
 refine ⟨fun hs0 => ?_,fun hs0 => ?_⟩
 · refine tt ⟨⟨oK,(by unfold sV; split <;> omega)⟩,tt ⟨(vT hs0),tt ⟨ix,tt ⟨ix,tt (cd (fun hc23 => ?_) (fun hc23 => ?_))⟩⟩⟩⟩
   · refine tt ⟨w6,tt ⟨(n + 1),rfl,?_,(?_ : a.length - (n + 1) < a.length - n)⟩⟩
     · exact ⟨by omega,by omega,eJ hn3 hc23⟩
     · omega
   · refine tt ⟨?_,oK⟩
     first | exact congrArg _ (sa hn1 hn2 hn3 (by omega)).symm | exact congrArg _ (sa hn1 hn2 hn3 (fun q => hc23 q.2.2)).symm
 · refine tt ⟨⟨oK,(by unfold sV; split <;> omega)⟩,tt ⟨(vF hs0),tt ⟨?_,oK⟩⟩⟩
   first | exact congrArg _ (sa hn1 hn2 hn3 (by omega)).symm | exact congrArg _ (sa hn1 hn2 hn3 (fun q => hc23 q.2.2)).symm
abbrev Eo (a b : List (List Int)) : Ct := ⟨12,[(dL 1 ab [] a),(dL 1 ab [] b)],false,(dB (dm a b))⟩
abbrev tJ (a : List (List Int)) (b : List (List Int)) : Lp (Nat) := oS [0,1,12,13] 0 (fun (i : Nat) => ⟨[(0,(dL 1 ab [] a)),(1,(dL 1 ab [] b)),(12,(i6 (a.length : Int))),(13,(i6 (i : Int)))],[]⟩) (fun (i : Nat) => i ≤ a.length∧∀ q,q < i → (!decide (dk (a.getD q []) (b.getD q []) < (a.getD q []).length)) = true) (fun (i : Nat) => a.length - i)
theorem nY (a b : List (List Int)) (ha : a.length ≤ 9223372036854775807) (hsa : ∀ i,(a.getD i []).length ≤ 9223372036854775807) : CC (Eo a b) := by
 refine ai.vc (V := TT 6 (CN ((a.length : Int) = (b.length : Int)) (TT 2 (false = (dm a b)∧True)) (TT 3 (GO (tJ a b) 0 (∀ i,(tJ a b).inv i → TT 1 (CD ((i : Int) < (a.length : Int)) (TT 4 (IX (i : Int) a.length∧TT 3 (IX (i : Int) b.length∧TT 1 (CC (L0 (a.getD i []) (b.getD i []))∧TT 2 (IX (i : Int) a.length∧TT 3 (CD ((((dk (a.getD i []) (b.getD i [])) : Nat) : Int) < (((a.getD i []).length : Nat) : Int)) (TT 2 (false = (dm a b)∧True)) (W6 ((i + 1 : Nat) : Int)∧TT 1 (AG (tJ a b) i (i + 1))))))))) (TT 2 (true = (dm a b)∧True)))))))) (.b 10 (.e) (.l (tJ a b) 0 (fun i => .b 14 (.w 6 [(8,(L0 (a.getD i []) (b.getD i [])).O)] <| .b 30 (.e) (.w 8 [(0,.val (i6 ((i + 1 : Nat) : Int)))] <| .e)) (.e)))) Try.func12 rfl rfl rfl (by kernel_rfl) ?_
 refine tt (cn (fun hc10 => ?_) (fun hc10 => ?_))
 · refine tt ⟨?_,oK⟩
   first | exact (nN (by omega)).symm | exact (nO (i := i) (by omega) (by omega)).symm | exact (nP (by omega) (fun q hq => h3 q (by omega))).symm
 · refine tt ⟨rfl,⟨by omega,fun q hq => by omega⟩,?_⟩
   intro i hinv
   obtain ⟨hi,h3⟩ := hinv
   refine tt (cd (fun hc14 => ?_) (fun hc14 => ?_))
   · refine tt ⟨ix,tt ⟨ix,tt ⟨(Db (a.getD i []) (b.getD i []) (hsa i)),tt ⟨ix,tt (cd (fun hc30 => ?_) (fun hc30 => ?_))⟩⟩⟩⟩
     · refine tt ⟨?_,oK⟩
       first | exact (nN (by omega)).symm | exact (nO (i := i) (by omega) (by omega)).symm | exact (nP (by omega) (fun q hq => h3 q (by omega))).symm
     · refine ⟨w6,tt ⟨(i + 1),rfl,?_,(?_ : a.length - (i + 1) < a.length - i)⟩⟩
       · exact ⟨by omega,eJ h3 (by rw [decide_eq_false (by omega)]; rfl)⟩
       · omega
   · refine tt ⟨?_,oK⟩
     first | exact (nN (by omega)).symm | exact (nO (i := i) (by omega) (by omega)).symm | exact (nP (by omega) (fun q hq => h3 q (by omega))).symm
abbrev Np (a b : List (List Int)) : Ct := ⟨29,[(dL 1 ab [] a),(dL 1 ab [] b)],false,(.tup [(i6 ((du a b).1)),(i6 ((du a b).2.1)),(dB ((du a b).2.2))])⟩
abbrev ra (a : List (List Int)) (b : List (List Int)) : Lp (Nat) := oS [0,1,13,14] 0 (fun (i : Nat) => ⟨[(0,(dL 1 ab [] a)),(1,(dL 1 ab [] b)),(13,(i6 (((min a.length b.length) : Nat) : Int))),(14,(i6 (i : Int)))],[]⟩) (fun (i : Nat) => i ≤ min a.length b.length∧s7 a b (min a.length b.length - i) i = du a b) (fun (i : Nat) => min a.length b.length - i)
theorem GM (a b : List (List Int)) (ha : a.length ≤ 9223372036854775807) (hsa : ∀ i,(a.getD i []).length ≤ 9223372036854775807) : CC (Np a b) := by
 refine ai.vc (V := TT 7 ((True∧(sV (a.length : Int) (b.length : Int)) = (((min a.length b.length) : Nat) : Int))∧TT 1 (GO (ra a b) 0 (∀ i,(ra a b).inv i → TT 1 (CD ((i : Int) < (((min a.length b.length) : Nat) : Int)) (TT 4 (IX (i : Int) a.length∧TT 3 (IX (i : Int) b.length∧TT 1 (CC (L0 (a.getD i []) (b.getD i []))∧TT 4 (IX (i : Int) a.length∧TT 4 (IX (i : Int) b.length∧TT 2 ((True∧(sV (((a.getD i []).length : Nat) : Int) (((b.getD i []).length : Nat) : Int)) = (((min (a.getD i []).length (b.getD i []).length) : Nat) : Int))∧TT 1 (CD ((((dk (a.getD i []) (b.getD i [])) : Nat) : Int) < (((min (a.getD i []).length (b.getD i []).length) : Nat) : Int)) (TT 8 (((i : Int) = ((du a b).1)∧(((dk (a.getD i []) (b.getD i [])) : Nat) : Int) = ((du a b).2.1)∧true = ((du a b).2.2)∧True)∧(True∧True∧True∧True))) (W6 ((i + 1 : Nat) : Int)∧TT 1 (AG (ra a b) i (i + 1))))))))))) (TT 6 (((0 : Int) = ((du a b).1)∧(0 : Int) = ((du a b).2.1)∧false = ((du a b).2.2)∧True)∧(True∧True∧True∧True)))))))) (.w 1 [(4,.val (i6 (((min a.length b.length) : Nat) : Int)))] <| .l (ra a b) 0 (fun i => .b 15 (.w 4 [(8,(L0 (a.getD i []) (b.getD i [])).O)] <| .w 5 [(11,.val (i6 (((min (a.getD i []).length (b.getD i []).length) : Nat) : Int)))] <| .b 38 (.e) (.w 7 [(0,.val (i6 ((i + 1 : Nat) : Int)))] <| .e)) (.e))) Try.func29 rfl rfl rfl (by kernel_rfl) ?_
 refine tt ⟨⟨oK,(by unfold sV; split <;> omega)⟩,tt ⟨rfl,⟨by omega,rfl⟩,?_⟩⟩
 intro i hinv
 obtain ⟨hi,h3⟩ := hinv
 refine tt (cd (fun hc15 => ?_) (fun hc15 => ?_))
 · refine tt ⟨ix,tt ⟨ix,tt ⟨(Db (a.getD i []) (b.getD i []) (hsa i)),tt ⟨ix,tt ⟨ix,tt ⟨⟨oK,(by unfold sV; split <;> omega)⟩,tt (cd (fun hc38 => ?_) (fun hc38 => ?_))⟩⟩⟩⟩⟩⟩
   · refine tt ⟨⟨?_,?_,?_,oK⟩,⟨oK,oK,oK,oK⟩⟩
     all_goals (all_goals (rw [← h3]; first | (rw [C9 (by omega) (by omega)]; done) | (rw [Da (by omega)]; done)))
   · refine ⟨w6,tt ⟨(i + 1),rfl,?_,(?_ : min a.length b.length - (i + 1) < min a.length b.length - i)⟩⟩
     · exact ⟨by omega,by rw [← h3]; exact (KC (by omega) (by omega)).symm⟩
     · omega
 · refine tt ⟨⟨?_,?_,?_,oK⟩,⟨oK,oK,oK,oK⟩⟩
   all_goals (all_goals (rw [← h3]; first | (rw [C9 (by omega) (by omega)]; done) | (rw [Da (by omega)]; done)))
abbrev Nq (v : Int) (c : Ci) (n : Nat) : Ct := ⟨46,[(i6 v),(.iptr [(.sl 6 iB ac c.procs),(.sl 5 gM cb c.chans)] 0),(.iptr [(.int .i64 (n : Int))] 0)],false,(dB (!(kL v (eO c n).w)))⟩
theorem Bp (v : Int) (c : Ci) (n : Nat) (hc : a6 c) (hn : n < c.chans.length) : CC (Nq v c n) := by
 have hw : 1 ≤ (c.chans.getD n cb).w∧(c.chans.getD n cb).w ≤ 8 := bo.1 (hc.cw n (by omega))
 refine ai.vc (V := TT 1 (CS (v < 0) (TT 2 ((True∧(decide (v < 0)) = true)∧TT 12 (true = (!(kL v (eO c n).w))∧True))) (TT 2 ((True∧(decide (v < 0)) = false)∧TT 4 (IX (n : Int) c.chans.length∧TT 2 (SH ((c.chans.getD n cb).w)∧TT 4 ((decide (v ≥ (2 ^ (((c.chans.getD n cb).w).toNat)))) = (!(kL v (eO c n).w))∧True))))))) (.s 1 (v < 0) (.w 1 [(2,.val (dB true))] <| .e) (.w 1 [(2,.val (dB false)),(10,.val (i6 (2 ^ (((c.chans.getD n cb).w).toNat))))] <| .e)) Try.func46 rfl rfl rfl (by kernel_rfl) ?_
 refine tt ⟨fun hs0 => ?_,fun hs0 => ?_⟩
 · refine tt ⟨(vT hs0),tt ⟨?_,oK⟩⟩
   show _ = !(kL v (c.chans.getD n cb).w)
   first | (unfold kL; rw [decide_eq_false (by omega)]; rfl) | (unfold kL; rw [decide_eq_true (show (0 : Int) ≤ v by omega),dQ (by omega) (by omega),Bool.true_and]; by_cases hq : v < 2 ^ (c.chans.getD n cb).w.toNat <;> first | (rw [decide_eq_false (by omega),decide_eq_true (by omega)]; rfl) | (rw [decide_eq_true (by omega),decide_eq_false (by omega)]; rfl))
 · refine tt ⟨(vF hs0),tt ⟨ix,tt ⟨(sh (by have := oT (n := (c.chans.getD n cb).w.toNat) (by omega); omega) (by have := oT (n := (c.chans.getD n cb).w.toNat) (by omega); omega)),tt ⟨?_,oK⟩⟩⟩⟩
   show _ = !(kL v (c.chans.getD n cb).w)
   first | (unfold kL; rw [decide_eq_false (by omega)]; rfl) | (unfold kL; rw [decide_eq_true (show (0 : Int) ≤ v by omega),dQ (by omega) (by omega),Bool.true_and]; by_cases hq : v < 2 ^ (c.chans.getD n cb).w.toNat <;> first | (rw [decide_eq_false (by omega),decide_eq_true (by omega)]; rfl) | (rw [decide_eq_true (by omega),decide_eq_false (by omega)]; rfl))
abbrev KD (l : List Int) (c : Ci) (n : Nat) : Ct := ⟨57,[(LI l),(GL c n)],false,(i6 (s5 l (eO c n).w))⟩
abbrev tK (l : List Int) (c : Ci) (n : Nat) : Lp (Nat) := oS [0,1,7,8] 0 (fun (i : Nat) => ⟨[(0,(LI l)),(1,(GL c n)),(7,(i6 (l.length : Int))),(8,(i6 (i : Int)))],[]⟩) (fun (i : Nat) => i ≤ l.length∧∀ z,z < i → (!kL (l.getD z 0) (eO c n).w) = false) (fun (i : Nat) => l.length - i)
theorem IG (l : List Int) (c : Ci) (n : Nat) (hc : a6 c) (hn : n < c.chans.length) (hl : l.length ≤ 9223372036854775807) : CC (KD l c n) := by
 refine ai.vc (V := TT 4 (GO (tK l c n) 0 (∀ i,(tK l c n).inv i → TT 1 (CD ((i : Int) < (l.length : Int)) (TT 5 (IX (i : Int) l.length∧TT 1 (CC (Nq (l.getD i 0) c n)∧CB (!(kL (l.getD i 0) (eO c n).w)) (TT 3 ((i : Int) = (s5 l (eO c n).w)∧True)) (W6 ((i + 1 : Nat) : Int)∧TT 1 (AG (tK l c n) i (i + 1)))))) (TT 2 ((-1) = (s5 l (eO c n).w)∧True)))))) (.l (tK l c n) 0 (fun i => .b 9 (.w 4 [(5,(Nq (l.getD i 0) c n).O)] <| .b 16 (.e) (.w 6 [(0,.val (i6 ((i + 1 : Nat) : Int)))] <| .e)) (.e))) Try.func57 rfl rfl rfl (by kernel_rfl) ?_
 refine tt ⟨rfl,⟨by omega,fun z hz => by omega⟩,?_⟩
 intro i hinv
 obtain ⟨hi,h3⟩ := hinv
 refine tt (cd (fun hc9 => ?_) (fun hc9 => ?_))
 · refine tt ⟨ix,tt ⟨(Bp (l.getD i 0) c n hc hn),⟨fun hc16 => ?_,fun hc16 => ?_⟩⟩⟩
   · refine tt ⟨?_,oK⟩
     first | exact (pK (f := fun i => !kL (l.getD i 0) (eO c n).w) hc16 h3 (by omega)).symm | exact (wK (f := fun i => !kL (l.getD i 0) (eO c n).w) (fun z hz => h3 z (by omega))).symm
   · refine ⟨w6,tt ⟨(i + 1),rfl,?_,(?_ : l.length - (i + 1) < l.length - i)⟩⟩
     · exact ⟨by omega,eJ h3 hc16⟩
     · omega
 · refine tt ⟨?_,oK⟩
   first | exact (pK (f := fun i => !kL (l.getD i 0) (eO c n).w) hc16 h3 (by omega)).symm | exact (wK (f := fun i => !kL (l.getD i 0) (eO c n).w) (fun z hz => h3 z (by omega))).symm
abbrev GN (l : List Int) (c : Ci) (n : Nat) : Ct := ⟨47,[(LI l),(GL c n)],false,(dB (decide (0 ≤ s5 l (eO c n).w)))⟩
theorem Dc (l : List Int) (c : Ci) (n : Nat) (hc : a6 c) (hn : n < c.chans.length) (hl : l.length ≤ 9223372036854775807) : CC (GN l c n) := by
 refine ai.vc (V := TT 3 (CC (KD l c n)∧TT 3 ((decide ((s5 l (eO c n).w) ≥ 0)) = (decide (0 ≤ s5 l (eO c n).w))∧True))) (.w 1 [(2,(KD l c n).O)] <| .e) Try.func47 rfl rfl rfl (by kernel_rfl) ?_
 refine tt ⟨(IG l c n hc hn hl),tt ⟨?_,oK⟩⟩
 rfl
abbrev GP (c : Ci) (inp : List (List Int)) : Ct := ⟨33,[(.agg [(dL 6 iB ac c.procs),(dL 5 gM cb c.chans)]),(dL 1 ab [] inp)],false,(dB (dZ c inp))⟩
abbrev j9 (c : Ci) (inp : List (List Int)) : Lp (Nat) := oS [2,14,15,16] 1 (fun (n : Nat) => ⟨[(2,(.iptr [(.sl 6 iB ac c.procs),(.sl 5 gM cb c.chans)] 0)),(14,(dL 1 ab [] inp)),(15,(i6 (inp.length : Int))),(16,(i6 (n : Int)))],[.dead]⟩) (fun (n : Nat) => n ≤ inp.length∧∀ z,z < n → vH c inp z = true) (fun (n : Nat) => inp.length - n)
theorem ka (c : Ci) (inp : List (List Int)) (hc : a6 c) (hl : inp.length ≤ 9223372036854775807) (hs : ∀ i,(inp.getD i []).length ≤ 9223372036854775807) : CC (GP c inp) := by
 have hnl := hc.nl
 have hcl := hc.cl
 refine ai.vc (V := TT 8 (CN ((inp.length : Int) = (c.chans.length : Int)) (TT 2 (false = (dZ c inp)∧True)) (TT 3 (GO (j9 c inp) 0 (∀ n,(j9 c inp).inv n → TT 1 (CD ((n : Int) < (inp.length : Int)) (TT 1 (IX (n : Int) inp.length∧TT 6 (CS ((((inp.getD n []).length : Nat) : Int) > 1000) (TT 3 ((True∧(decide ((((inp.getD n []).length : Nat) : Int) > 1000)) = true)∧TT 20 (false = (dZ c inp)∧True))) (CS ((((inp.getD n []).length : Nat) : Int) > 0) (CS (((c.chans.getD n cb).frm) = (-1)) (TT 3 ((True∧(decide ((((inp.getD n []).length : Nat) : Int) > 1000)) = false)∧TT 3 ((True∧(decide ((((inp.getD n []).length : Nat) : Int) > 0)) = true)∧TT 3 (IX (n : Int) c.chans.length∧TT 5 ((True∧(!decide (((c.chans.getD n cb).frm) = (-1))) = false)∧TT 2 (CC (GN (inp.getD n []) c n)∧TT 1 (CD (0 ≤ s5 (inp.getD n []) (eO c n).w) (TT 2 (false = (dZ c inp)∧True)) (W6 ((n + 1 : Nat) : Int)∧TT 1 (AG (j9 c inp) n (n + 1)))))))))) (TT 3 ((True∧(decide ((((inp.getD n []).length : Nat) : Int) > 1000)) = false)∧TT 3 ((True∧(decide ((((inp.getD n []).length : Nat) : Int) > 0)) = true)∧TT 3 (IX (n : Int) c.chans.length∧TT 5 ((True∧(!decide (((c.chans.getD n cb).frm) = (-1))) = true)∧TT 6 (false = (dZ c inp)∧True))))))) (TT 3 ((True∧(decide ((((inp.getD n []).length : Nat) : Int) > 1000)) = false)∧TT 3 ((True∧(decide ((((inp.getD n []).length : Nat) : Int) > 0)) = false)∧TT 12 (CC (GN (inp.getD n []) c n)∧TT 1 (CD (0 ≤ s5 (inp.getD n []) (eO c n).w) (TT 2 (false = (dZ c inp)∧True)) (W6 ((n + 1 : Nat) : Int)∧TT 1 (AG (j9 c inp) n (n + 1)))))))))))) (TT 2 (true = (dZ c inp)∧True)))))))) (.b 13 (.e) (.f 3 0 <| .l (j9 c inp) 0 (fun n => .b 17 (.f 6 1 <| .s 7 ((((inp.getD n []).length : Nat) : Int) > 1000) (.w 7 [(3,.val (dB true))] <| .e) (.s 7 ((((inp.getD n []).length : Nat) : Int) > 0) (.s 7 (((c.chans.getD n cb).frm) = (-1)) (.w 7 [(3,.val (dB false)),(7,.val (dB true)),(17,.val (dB false)),(20,(GN (inp.getD n []) c n).O)] <| .b 43 (.e) (.w 9 [(0,.val (i6 ((n + 1 : Nat) : Int)))] <| .e)) (.w 7 [(3,.val (dB false)),(7,.val (dB true)),(17,.val (dB true))] <| .e)) (.w 7 [(3,.val (dB false)),(7,.val (dB false)),(20,(GN (inp.getD n []) c n).O)] <| .b 43 (.e) (.w 9 [(0,.val (i6 ((n + 1 : Nat) : Int)))] <| .e)))) (.e)))) Try.func33 rfl rfl rfl (by kernel_rfl) ?_
 refine tt (cn (fun hc13 => ?_) (fun hc13 => ?_))
 · refine tt ⟨?_,oK⟩
   first | exact (nQ (by omega)).symm | exact (nR (n := n) (by omega) (by omega)).symm | exact (nU (n := n) (by omega) (by omega) (by show ¬(c.chans.getD n cb).frm = -1; omega)).symm | exact (nW (n := n) (by omega) (by first | assumption | simpa using hc43)).symm | exact (nX (by omega) (fun z hz => h3 z (by omega))).symm
 · refine tt ⟨rfl,⟨by omega,fun z hz => by omega⟩,?_⟩
   intro n hinv
   obtain ⟨hn,h3⟩ := hinv
   refine tt (cd (fun hc17 => ?_) (fun hc17 => ?_))
   · refine tt ⟨ix,tt ⟨fun hs0 => ?_,fun hs0 => ?_⟩⟩
     · refine tt ⟨(vT hs0),tt ⟨?_,oK⟩⟩
       first | exact (nQ (by omega)).symm | exact (nR (n := n) (by omega) (by omega)).symm | exact (nU (n := n) (by omega) (by omega) (by show ¬(c.chans.getD n cb).frm = -1; omega)).symm | exact (nW (n := n) (by omega) (by first | assumption | simpa using hc43)).symm | exact (nX (by omega) (fun z hz => h3 z (by omega))).symm
     · refine ⟨fun hs1 => ?_,fun hs1 => ?_⟩
       · refine ⟨fun hs2 => ?_,fun hs2 => ?_⟩
         · refine tt ⟨(vF hs0),tt ⟨(vT hs1),tt ⟨ix,tt ⟨(nF hs2),tt ⟨(Dc (inp.getD n []) c n hc (show n < c.chans.length by omega) (hs n)),tt (cd (fun hc43 => ?_) (fun hc43 => ?_))⟩⟩⟩⟩⟩
           · refine tt ⟨?_,oK⟩
             first | exact (nQ (by omega)).symm | exact (nR (n := n) (by omega) (by omega)).symm | exact (nU (n := n) (by omega) (by omega) (by show ¬(c.chans.getD n cb).frm = -1; omega)).symm | exact (nW (n := n) (by omega) (by first | assumption | simpa using hc43)).symm | exact (nX (by omega) (fun z hz => h3 z (by omega))).symm
           · refine ⟨w6,tt ⟨(n + 1),rfl,?_,(?_ : inp.length - (n + 1) < inp.length - n)⟩⟩
             · exact ⟨by omega,eJ h3 (Jx (by omega) (by first | exact .inl (by omega) | exact .inr (by show (c.chans.getD n cb).frm = -1; omega)) (by first | assumption | simpa using hc43))⟩
             · omega
         · refine tt ⟨(vF hs0),tt ⟨(vT hs1),tt ⟨ix,tt ⟨(nT hs2),tt ⟨?_,oK⟩⟩⟩⟩⟩
           first | exact (nQ (by omega)).symm | exact (nR (n := n) (by omega) (by omega)).symm | exact (nU (n := n) (by omega) (by omega) (by show ¬(c.chans.getD n cb).frm = -1; omega)).symm | exact (nW (n := n) (by omega) (by first | assumption | simpa using hc43)).symm | exact (nX (by omega) (fun z hz => h3 z (by omega))).symm
       · refine tt ⟨(vF hs0),tt ⟨(vF hs1),tt ⟨(Dc (inp.getD n []) c n hc (show n < c.chans.length by omega) (hs n)),tt (cd (fun hc43 => ?_) (fun hc43 => ?_))⟩⟩⟩
         · refine tt ⟨?_,oK⟩
           first | exact (nQ (by omega)).symm | exact (nR (n := n) (by omega) (by omega)).symm | exact (nU (n := n) (by omega) (by omega) (by show ¬(c.chans.getD n cb).frm = -1; omega)).symm | exact (nW (n := n) (by omega) (by first | assumption | simpa using hc43)).symm | exact (nX (by omega) (fun z hz => h3 z (by omega))).symm
         · refine ⟨w6,tt ⟨(n + 1),rfl,?_,(?_ : inp.length - (n + 1) < inp.length - n)⟩⟩
           · exact ⟨by omega,eJ h3 (Jx (by omega) (by first | exact .inl (by omega) | exact .inr (by show (c.chans.getD n cb).frm = -1; omega)) (by first | assumption | simpa using hc43))⟩
           · omega
   · refine tt ⟨?_,oK⟩
     first | exact (nQ (by omega)).symm | exact (nR (n := n) (by omega) (by omega)).symm | exact (nU (n := n) (by omega) (by omega) (by show ¬(c.chans.getD n cb).frm = -1; omega)).symm | exact (nW (n := n) (by omega) (by first | assumption | simpa using hc43)).symm | exact (nX (by omega) (fun z hz => h3 z (by omega))).symm
end Go.Proofs.Ytckgpflobhpnpaa
