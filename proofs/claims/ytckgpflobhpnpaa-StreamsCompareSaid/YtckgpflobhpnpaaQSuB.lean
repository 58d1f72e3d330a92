/-
  Package streams: prefixes, differences, valid inputs.
-/
import Derived.Test.YtckgpflobhpnpaaQSuA
import Derived.Test.YtckgpflobhpnpaaQStE
namespace Go.Proofs.Ytckgpflobhpnpaa
open Go.RowKit
set_option linter.unusedVariables false
set_option linter.unusedSimpArgs false
abbrev DN (c : Ci) (n : Nat) : D := (.fn (.func 46) [] [(.iptr [(.sl 6 pU ab c.procs),(.sl 5 tu ge c.chans)] 0),(.iptr [(.int .i64 (n : Int))] 0)])
set_option maxRecDepth 100000
abbrev Iw (a b : List Int) : Ct := ⟨27,[(LI a),(LI b)],false,(i6 (((bO a b) : Nat) : Int))⟩
abbrev rT (a : List Int) (b : List Int) : Lp (Nat) := pT [0,1,5] 0 (fun (n : Nat) => ⟨[(0,(LI a)),(1,(LI b)),(5,(i6 (n : Int)))],[]⟩) (fun (n : Nat) => n ≤ a.length∧n ≤ b.length∧∀ j,j < n → a.getD j 0 = b.getD j 0) (fun (n : Nat) => a.length - n)
theorem AD (a b : List Int) (ha : a.length ≤ 9223372036854775807) : CC (Iw a b) := by
 refine ai.vc (V := TT 2 (GO (rT a b) 0 (∀ n,(rT a b).inv n → CS ((n : Int) < (((min a.length b.length) : Nat) : Int)) (TT 5 ((True∧(gw (a.length : Int) (b.length : Int)) = (((min a.length b.length) : Nat) : Int))∧TT 1 ((True∧(decide ((n : Int) < (((min a.length b.length) : Nat) : Int))) = true)∧TT 2 (IX (n : Int) a.length∧TT 3 (IX (n : Int) b.length∧TT 3 (CD ((a.getD n 0) = (b.getD n 0)) (TT 1 (W6 ((n + 1 : Nat) : Int)∧TT 1 (AG (rT a b) n (n + 1)))) (TT 3 ((n : Int) = (((bO a b) : Nat) : Int)∧True)))))))) (TT 5 ((True∧(gw (a.length : Int) (b.length : Int)) = (((min a.length b.length) : Nat) : Int))∧TT 1 ((True∧(decide ((n : Int) < (((min a.length b.length) : Nat) : Int))) = false)∧TT 4 ((n : Int) = (((bO a b) : Nat) : Int)∧True))))))) (.l (rT a b) 0 (fun n => .s 2 ((n : Int) < (((min a.length b.length) : Nat) : Int)) (.w 2 [(5,.val (i6 (((min a.length b.length) : Nat) : Int))),(7,.val (dB true))] <| .b 23 (.w 3 [(1,.val (i6 ((n + 1 : Nat) : Int)))] <| .e) (.e)) (.w 2 [(5,.val (i6 (((min a.length b.length) : Nat) : Int))),(7,.val (dB false))] <| .e))) Try.func27 rfl rfl rfl (by kernel_rfl) ?_
 refine tt ⟨rfl,⟨by omega,by omega,fun j hj => by omega⟩,?_⟩
 intro n hinv
 obtain ⟨hn1,hn2,hn3⟩ := hinv
 refine ⟨fun hs0 => ?_,fun hs0 => ?_⟩
 · refine tt ⟨⟨oK,(by unfold gw; split <;> omega)⟩,tt ⟨(vT hs0),tt ⟨ix,tt ⟨ix,tt (cd (fun hc23 => ?_) (fun hc23 => ?_))⟩⟩⟩⟩
   · refine tt ⟨w6,tt ⟨(n + 1),rfl,?_,(?_ : a.length - (n + 1) < a.length - n)⟩⟩
     · exact ⟨by omega,by omega,fM hn3 hc23⟩
     · omega
   · refine tt ⟨?_,oK⟩
     first | exact congrArg _ (qy hn1 hn2 hn3 (by omega)).symm | exact congrArg _ (qy hn1 hn2 hn3 (fun q => hc23 q.2.2)).symm
 · refine tt ⟨⟨oK,(by unfold gw; split <;> omega)⟩,tt ⟨(vF hs0),tt ⟨?_,oK⟩⟩⟩
   first | exact congrArg _ (qy hn1 hn2 hn3 (by omega)).symm | exact congrArg _ (qy hn1 hn2 hn3 (fun q => hc23 q.2.2)).symm
abbrev cJ (a b : List (List Int)) : Ct := ⟨12,[(dL 1 aa [] a),(dL 1 aa [] b)],false,(dB (aV a b))⟩
abbrev rU (a : List (List Int)) (b : List (List Int)) : Lp (Nat) := pT [0,1,12,13] 0 (fun (i : Nat) => ⟨[(0,(dL 1 aa [] a)),(1,(dL 1 aa [] b)),(12,(i6 (a.length : Int))),(13,(i6 (i : Int)))],[]⟩) (fun (i : Nat) => i ≤ a.length∧∀ q,q < i → (!decide (bO (a.getD q []) (b.getD q []) < (a.getD q []).length)) = true) (fun (i : Nat) => a.length - i)
theorem aP (a b : List (List Int)) (ha : a.length ≤ 9223372036854775807) (hsa : ∀ i,(a.getD i []).length ≤ 9223372036854775807) : CC (cJ a b) := by
 refine ai.vc (V := TT 6 (CN ((a.length : Int) = (b.length : Int)) (TT 2 (false = (aV a b)∧True)) (TT 3 (GO (rU a b) 0 (∀ i,(rU a b).inv i → TT 1 (CD ((i : Int) < (a.length : Int)) (TT 4 (IX (i : Int) a.length∧TT 3 (IX (i : Int) b.length∧TT 1 (CC (Iw (a.getD i []) (b.getD i []))∧TT 2 (IX (i : Int) a.length∧TT 3 (CD ((((bO (a.getD i []) (b.getD i [])) : Nat) : Int) < (((a.getD i []).length : Nat) : Int)) (TT 2 (false = (aV a b)∧True)) (W6 ((i + 1 : Nat) : Int)∧TT 1 (AG (rU a b) i (i + 1))))))))) (TT 2 (true = (aV a b)∧True)))))))) (.b 10 (.e) (.l (rU a b) 0 (fun i => .b 14 (.w 6 [(8,(Iw (a.getD i []) (b.getD i [])).O)] <| .b 30 (.e) (.w 8 [(0,.val (i6 ((i + 1 : Nat) : Int)))] <| .e)) (.e)))) Try.func12 rfl rfl rfl (by kernel_rfl) ?_
 refine tt (cn (fun hc10 => ?_) (fun hc10 => ?_))
 · refine tt ⟨?_,oK⟩
   first | exact (mC (by omega)).symm | exact (mD (i := i) (by omega) (by omega)).symm | exact (mE (by omega) (fun q hq => h3 q (by omega))).symm
 · refine tt ⟨rfl,⟨by omega,fun q hq => by omega⟩,?_⟩
   intro i hinv
   obtain ⟨hi,h3⟩ := hinv
   refine tt (cd (fun hc14 => ?_) (fun hc14 => ?_))
   · refine tt ⟨ix,tt ⟨ix,tt ⟨(AD (a.getD i []) (b.getD i []) (hsa i)),tt ⟨ix,tt (cd (fun hc30 => ?_) (fun hc30 => ?_))⟩⟩⟩⟩
     · refine tt ⟨?_,oK⟩
       first | exact (mC (by omega)).symm | exact (mD (i := i) (by omega) (by omega)).symm | exact (mE (by omega) (fun q hq => h3 q (by omega))).symm
     · refine ⟨w6,tt ⟨(i + 1),rfl,?_,(?_ : a.length - (i + 1) < a.length - i)⟩⟩
       · exact ⟨by omega,fM h3 (by rw [decide_eq_false (by omega)]; rfl)⟩
       · omega
   · refine tt ⟨?_,oK⟩
     first | exact (mC (by omega)).symm | exact (mD (i := i) (by omega) (by omega)).symm | exact (mE (by omega) (fun q hq => h3 q (by omega))).symm
abbrev JI (a b : List (List Int)) : Ct := ⟨29,[(dL 1 aa [] a),(dL 1 aa [] b)],false,(.tup [(i6 ((ao a b).1)),(i6 ((ao a b).2.1)),(dB ((ao a b).2.2))])⟩
abbrev pJ (a : List (List Int)) (b : List (List Int)) : Lp (Nat) := pT [0,1,13,14] 0 (fun (i : Nat) => ⟨[(0,(dL 1 aa [] a)),(1,(dL 1 aa [] b)),(13,(i6 (((min a.length b.length) : Nat) : Int))),(14,(i6 (i : Int)))],[]⟩) (fun (i : Nat) => i ≤ min a.length b.length∧rn a b (min a.length b.length - i) i = ao a b) (fun (i : Nat) => min a.length b.length - i)
theorem DP (a b : List (List Int)) (ha : a.length ≤ 9223372036854775807) (hsa : ∀ i,(a.getD i []).length ≤ 9223372036854775807) : CC (JI a b) := by
 refine ai.vc (V := TT 7 ((True∧(gw (a.length : Int) (b.length : Int)) = (((min a.length b.length) : Nat) : Int))∧TT 1 (GO (pJ a b) 0 (∀ i,(pJ a b).inv i → TT 1 (CD ((i : Int) < (((min a.length b.length) : Nat) : Int)) (TT 4 (IX (i : Int) a.length∧TT 3 (IX (i : Int) b.length∧TT 1 (CC (Iw (a.getD i []) (b.getD i []))∧TT 4 (IX (i : Int) a.length∧TT 4 (IX (i : Int) b.length∧TT 2 ((True∧(gw (((a.getD i []).length : Nat) : Int) (((b.getD i []).length : Nat) : Int)) = (((min (a.getD i []).length (b.getD i []).length) : Nat) : Int))∧TT 1 (CD ((((bO (a.getD i []) (b.getD i [])) : Nat) : Int) < (((min (a.getD i []).length (b.getD i []).length) : Nat) : Int)) (TT 8 (((i : Int) = ((ao a b).1)∧(((bO (a.getD i []) (b.getD i [])) : Nat) : Int) = ((ao a b).2.1)∧true = ((ao a b).2.2)∧True)∧(True∧True∧True∧True))) (W6 ((i + 1 : Nat) : Int)∧TT 1 (AG (pJ a b) i (i + 1))))))))))) (TT 6 (((0 : Int) = ((ao a b).1)∧(0 : Int) = ((ao a b).2.1)∧false = ((ao a b).2.2)∧True)∧(True∧True∧True∧True)))))))) (.w 1 [(4,.val (i6 (((min a.length b.length) : Nat) : Int)))] <| .l (pJ a b) 0 (fun i => .b 15 (.w 4 [(8,(Iw (a.getD i []) (b.getD i [])).O)] <| .w 5 [(11,.val (i6 (((min (a.getD i []).length (b.getD i []).length) : Nat) : Int)))] <| .b 38 (.e) (.w 7 [(0,.val (i6 ((i + 1 : Nat) : Int)))] <| .e)) (.e))) Try.func29 rfl rfl rfl (by kernel_rfl) ?_
 refine tt ⟨⟨oK,(by unfold gw; split <;> omega)⟩,tt ⟨rfl,⟨by omega,rfl⟩,?_⟩⟩
 intro i hinv
 obtain ⟨hi,h3⟩ := hinv
 refine tt (cd (fun hc15 => ?_) (fun hc15 => ?_))
 · refine tt ⟨ix,tt ⟨ix,tt ⟨(AD (a.getD i []) (b.getD i []) (hsa i)),tt ⟨ix,tt ⟨ix,tt ⟨⟨oK,(by unfold gw; split <;> omega)⟩,tt (cd (fun hc38 => ?_) (fun hc38 => ?_))⟩⟩⟩⟩⟩⟩
   · refine tt ⟨⟨?_,?_,?_,oK⟩,⟨oK,oK,oK,oK⟩⟩
     all_goals (all_goals (rw [← h3]; first | (rw [AB (by omega) (by omega)]; done) | (rw [AC (by omega)]; done)))
   · refine ⟨w6,tt ⟨(i + 1),rfl,?_,(?_ : min a.length b.length - (i + 1) < min a.length b.length - i)⟩⟩
     · exact ⟨by omega,by rw [← h3]; exact (Hi (by omega) (by omega)).symm⟩
     · omega
 · refine tt ⟨⟨?_,?_,?_,oK⟩,⟨oK,oK,oK,oK⟩⟩
   all_goals (all_goals (rw [← h3]; first | (rw [AB (by omega) (by omega)]; done) | (rw [AC (by omega)]; done)))
abbrev JJ (v : Int) (c : Ci) (n : Nat) : Ct := ⟨46,[(i6 v),(.iptr [(.sl 6 pU ab c.procs),(.sl 5 tu ge c.chans)] 0),(.iptr [(.int .i64 (n : Int))] 0)],false,(dB (!(j9 v (gF c n).w)))⟩
theorem y4 (v : Int) (c : Ci) (n : Nat) (hc : a8 c) (hn : n < c.chans.length) : CC (JJ v c n) := by
 have hw : 1 ≤ (c.chans.getD n ge).w∧(c.chans.getD n ge).w ≤ 8 := dp.1 (hc.cw n (by omega))
 refine ai.vc (V := TT 1 (CS (v < 0) (TT 2 ((True∧(decide (v < 0)) = true)∧TT 12 (true = (!(j9 v (gF c n).w))∧True))) (TT 2 ((True∧(decide (v < 0)) = false)∧TT 4 (IX (n : Int) c.chans.length∧TT 2 (SH ((c.chans.getD n ge).w)∧TT 4 ((decide (v ≥ (2 ^ (((c.chans.getD n ge).w).toNat)))) = (!(j9 v (gF c n).w))∧True))))))) (.s 1 (v < 0) (.w 1 [(2,.val (dB true))] <| .e) (.w 1 [(2,.val (dB false)),(10,.val (i6 (2 ^ (((c.chans.getD n ge).w).toNat))))] <| .e)) Try.func46 rfl rfl rfl (by kernel_rfl) ?_
 refine tt ⟨fun hs0 => ?_,fun hs0 => ?_⟩
 · refine tt ⟨(vT hs0),tt ⟨?_,oK⟩⟩
   show _ = !(j9 v (c.chans.getD n ge).w)
   first | (unfold j9; rw [decide_eq_false (by omega)]; rfl) | (unfold j9; rw [decide_eq_true (show (0 : Int) ≤ v by omega),fY (by omega) (by omega),Bool.true_and]; by_cases hq : v < 2 ^ (c.chans.getD n ge).w.toNat <;> first | (rw [decide_eq_false (by omega),decide_eq_true (by omega)]; rfl) | (rw [decide_eq_true (by omega),decide_eq_false (by omega)]; rfl))
 · refine tt ⟨(vF hs0),tt ⟨ix,tt ⟨(sh (by have := uz (n := (c.chans.getD n ge).w.toNat) (by omega); omega) (by have := uz (n := (c.chans.getD n ge).w.toNat) (by omega); omega)),tt ⟨?_,oK⟩⟩⟩⟩
   show _ = !(j9 v (c.chans.getD n ge).w)
   first | (unfold j9; rw [decide_eq_false (by omega)]; rfl) | (unfold j9; rw [decide_eq_true (show (0 : Int) ≤ v by omega),fY (by omega) (by omega),Bool.true_and]; by_cases hq : v < 2 ^ (c.chans.getD n ge).w.toNat <;> first | (rw [decide_eq_false (by omega),decide_eq_true (by omega)]; rfl) | (rw [decide_eq_true (by omega),decide_eq_false (by omega)]; rfl))
abbrev Hj (l : List Int) (c : Ci) (n : Nat) : Ct := ⟨57,[(LI l),(DN c n)],false,(i6 (rm l (gF c n).w))⟩
abbrev rV (l : List Int) (c : Ci) (n : Nat) : Lp (Nat) := pT [0,1,7,8] 0 (fun (i : Nat) => ⟨[(0,(LI l)),(1,(DN c n)),(7,(i6 (l.length : Int))),(8,(i6 (i : Int)))],[]⟩) (fun (i : Nat) => i ≤ l.length∧∀ z,z < i → (!j9 (l.getD z 0) (gF c n).w) = false) (fun (i : Nat) => l.length - i)
theorem Fy (l : List Int) (c : Ci) (n : Nat) (hc : a8 c) (hn : n < c.chans.length) (hl : l.length ≤ 9223372036854775807) : CC (Hj l c n) := by
 refine ai.vc (V := TT 4 (GO (rV l c n) 0 (∀ i,(rV l c n).inv i → TT 1 (CD ((i : Int) < (l.length : Int)) (TT 5 (IX (i : Int) l.length∧TT 1 (CC (JJ (l.getD i 0) c n)∧CB (!(j9 (l.getD i 0) (gF c n).w)) (TT 3 ((i : Int) = (rm l (gF c n).w)∧True)) (W6 ((i + 1 : Nat) : Int)∧TT 1 (AG (rV l c n) i (i + 1)))))) (TT 2 ((-1) = (rm l (gF c n).w)∧True)))))) (.l (rV l c n) 0 (fun i => .b 9 (.w 4 [(5,(JJ (l.getD i 0) c n).O)] <| .b 16 (.e) (.w 6 [(0,.val (i6 ((i + 1 : Nat) : Int)))] <| .e)) (.e))) Try.func57 rfl rfl rfl (by kernel_rfl) ?_
 refine tt ⟨rfl,⟨by omega,fun z hz => by omega⟩,?_⟩
 intro i hinv
 obtain ⟨hi,h3⟩ := hinv
 refine tt (cd (fun hc9 => ?_) (fun hc9 => ?_))
 · refine tt ⟨ix,tt ⟨(y4 (l.getD i 0) c n hc hn),⟨fun hc16 => ?_,fun hc16 => ?_⟩⟩⟩
   · refine tt ⟨?_,oK⟩
     first | exact (oi (f := fun i => !j9 (l.getD i 0) (gF c n).w) hc16 h3 (by omega)).symm | exact (uR (f := fun i => !j9 (l.getD i 0) (gF c n).w) (fun z hz => h3 z (by omega))).symm
   · refine ⟨w6,tt ⟨(i + 1),rfl,?_,(?_ : l.length - (i + 1) < l.length - i)⟩⟩
     · exact ⟨by omega,fM h3 hc16⟩
     · omega
 · refine tt ⟨?_,oK⟩
   first | exact (oi (f := fun i => !j9 (l.getD i 0) (gF c n).w) hc16 h3 (by omega)).symm | exact (uR (f := fun i => !j9 (l.getD i 0) (gF c n).w) (fun z hz => h3 z (by omega))).symm
abbrev DQ (l : List Int) (c : Ci) (n : Nat) : Ct := ⟨47,[(LI l),(DN c n)],false,(dB (decide (0 ≤ rm l (gF c n).w)))⟩
theorem AE (l : List Int) (c : Ci) (n : Nat) (hc : a8 c) (hn : n < c.chans.length) (hl : l.length ≤ 9223372036854775807) : CC (DQ l c n) := by
 refine ai.vc (V := TT 3 (CC (Hj l c n)∧TT 3 ((decide ((rm l (gF c n).w) ≥ 0)) = (decide (0 ≤ rm l (gF c n).w))∧True))) (.w 1 [(2,(Hj l c n).O)] <| .e) Try.func47 rfl rfl rfl (by kernel_rfl) ?_
 refine tt ⟨(Fy l c n hc hn hl),tt ⟨?_,oK⟩⟩
 rfl
abbrev DR (c : Ci) (inp : List (List Int)) : Ct := ⟨33,[(.agg [(dL 6 pU ab c.procs),(dL 5 tu ge c.chans)]),(dL 1 aa [] inp)],false,(dB (dA c inp))⟩
abbrev jC (c : Ci) (inp : List (List Int)) : Lp (Nat) := pT [2,14,15,16] 1 (fun (n : Nat) => ⟨[(2,(.iptr [(.sl 6 pU ab c.procs),(.sl 5 tu ge c.chans)] 0)),(14,(dL 1 aa [] inp)),(15,(i6 (inp.length : Int))),(16,(i6 (n : Int)))],[.dead]⟩) (fun (n : Nat) => n ≤ inp.length∧∀ z,z < n → tH c inp z = true) (fun (n : Nat) => inp.length - n)
theorem jD (c : Ci) (inp : List (List Int)) (hc : a8 c) (hl : inp.length ≤ 9223372036854775807) (hs : ∀ i,(inp.getD i []).length ≤ 9223372036854775807) : CC (DR c inp) := by
 have hnl := hc.nl
 have hcl := hc.cl
 refine ai.vc (V := TT 8 (CN ((inp.length : Int) = (c.chans.length : Int)) (TT 2 (false = (dA c inp)∧True)) (TT 3 (GO (jC c inp) 0 (∀ n,(jC c inp).inv n → TT 1 (CD ((n : Int) < (inp.length : Int)) (TT 1 (IX (n : Int) inp.length∧TT 6 (CS ((((inp.getD n []).length : Nat) : Int) > 1000) (TT 3 ((True∧(decide ((((inp.getD n []).length : Nat) : Int) > 1000)) = true)∧TT 20 (false = (dA c inp)∧True))) (CS ((((inp.getD n []).length : Nat) : Int) > 0) (CS (((c.chans.getD n ge).frm) = (-1)) (TT 3 ((True∧(decide ((((inp.getD n []).length : Nat) : Int) > 1000)) = false)∧TT 3 ((True∧(decide ((((inp.getD n []).length : Nat) : Int) > 0)) = true)∧TT 3 (IX (n : Int) c.chans.length∧TT 5 ((True∧(!decide (((c.chans.getD n ge).frm) = (-1))) = false)∧TT 2 (CC (DQ (inp.getD n []) c n)∧TT 1 (CD (0 ≤ rm (inp.getD n []) (gF c n).w) (TT 2 (false = (dA c inp)∧True)) (W6 ((n + 1 : Nat) : Int)∧TT 1 (AG (jC c inp) n (n + 1)))))))))) (TT 3 ((True∧(decide ((((inp.getD n []).length : Nat) : Int) > 1000)) = false)∧TT 3 ((True∧(decide ((((inp.getD n []).length : Nat) : Int) > 0)) = true)∧TT 3 (IX (n : Int) c.chans.length∧TT 5 ((True∧(!decide (((c.chans.getD n ge).frm) = (-1))) = true)∧TT 6 (false = (dA c inp)∧True))))))) (TT 3 ((True∧(decide ((((inp.getD n []).length : Nat) : Int) > 1000)) = false)∧TT 3 ((True∧(decide ((((inp.getD n []).length : Nat) : Int) > 0)) = false)∧TT 12 (CC (DQ (inp.getD n []) c n)∧TT 1 (CD (0 ≤ rm (inp.getD n []) (gF c n).w) (TT 2 (false = (dA c inp)∧True)) (W6 ((n + 1 : Nat) : Int)∧TT 1 (AG (jC c inp) n (n + 1)))))))))))) (TT 2 (true = (dA c inp)∧True)))))))) (.b 13 (.e) (.f 3 0 <| .l (jC c inp) 0 (fun n => .b 17 (.f 6 1 <| .s 7 ((((inp.getD n []).length : Nat) : Int) > 1000) (.w 7 [(3,.val (dB true))] <| .e) (.s 7 ((((inp.getD n []).length : Nat) : Int) > 0) (.s 7 (((c.chans.getD n ge).frm) = (-1)) (.w 7 [(3,.val (dB false)),(7,.val (dB true)),(17,.val (dB false)),(20,(DQ (inp.getD n []) c n).O)] <| .b 43 (.e) (.w 9 [(0,.val (i6 ((n + 1 : Nat) : Int)))] <| .e)) (.w 7 [(3,.val (dB false)),(7,.val (dB true)),(17,.val (dB true))] <| .e)) (.w 7 [(3,.val (dB false)),(7,.val (dB false)),(20,(DQ (inp.getD n []) c n).O)] <| .b 43 (.e) (.w 9 [(0,.val (i6 ((n + 1 : Nat) : Int)))] <| .e)))) (.e)))) Try.func33 rfl rfl rfl (by kernel_rfl) ?_
 refine tt (cn (fun hc13 => ?_) (fun hc13 => ?_))
 · refine tt ⟨?_,oK⟩
   first | exact (mG (by omega)).symm | exact (mH (n := n) (by omega) (by omega)).symm | exact (mI (n := n) (by omega) (by omega) (by show ¬(c.chans.getD n ge).frm = -1; omega)).symm | exact (mJ (n := n) (by omega) (by first | assumption | simpa using hc43)).symm | exact (mK (by omega) (fun z hz => h3 z (by omega))).symm
 · refine tt ⟨rfl,⟨by omega,fun z hz => by omega⟩,?_⟩
   intro n hinv
   obtain ⟨hn,h3⟩ := hinv
   refine tt (cd (fun hc17 => ?_) (fun hc17 => ?_))
   · refine tt ⟨ix,tt ⟨fun hs0 => ?_,fun hs0 => ?_⟩⟩
     · refine tt ⟨(vT hs0),tt ⟨?_,oK⟩⟩
       first | exact (mG (by omega)).symm | exact (mH (n := n) (by omega) (by omega)).symm | exact (mI (n := n) (by omega) (by omega) (by show ¬(c.chans.getD n ge).frm = -1; omega)).symm | exact (mJ (n := n) (by omega) (by first | assumption | simpa using hc43)).symm | exact (mK (by omega) (fun z hz => h3 z (by omega))).symm
     · refine ⟨fun hs1 => ?_,fun hs1 => ?_⟩
       · refine ⟨fun hs2 => ?_,fun hs2 => ?_⟩
         · refine tt ⟨(vF hs0),tt ⟨(vT hs1),tt ⟨ix,tt ⟨(nF hs2),tt ⟨(AE (inp.getD n []) c n hc (show n < c.chans.length by omega) (hs n)),tt (cd (fun hc43 => ?_) (fun hc43 => ?_))⟩⟩⟩⟩⟩
           · refine tt ⟨?_,oK⟩
             first | exact (mG (by omega)).symm | exact (mH (n := n) (by omega) (by omega)).symm | exact (mI (n := n) (by omega) (by omega) (by show ¬(c.chans.getD n ge).frm = -1; omega)).symm | exact (mJ (n := n) (by omega) (by first | assumption | simpa using hc43)).symm | exact (mK (by omega) (fun z hz => h3 z (by omega))).symm
           · refine ⟨w6,tt ⟨(n + 1),rfl,?_,(?_ : inp.length - (n + 1) < inp.length - n)⟩⟩
             · exact ⟨by omega,fM h3 (Gb (by omega) (by first | exact .inl (by omega) | exact .inr (by show (c.chans.getD n ge).frm = -1; omega)) (by first | assumption | simpa using hc43))⟩
             · omega
         · refine tt ⟨(vF hs0),tt ⟨(vT hs1),tt ⟨ix,tt ⟨(nT hs2),tt ⟨?_,oK⟩⟩⟩⟩⟩
           first | exact (mG (by omega)).symm | exact (mH (n := n) (by omega) (by omega)).symm | exact (mI (n := n) (by omega) (by omega) (by show ¬(c.chans.getD n ge).frm = -1; omega)).symm | exact (mJ (n := n) (by omega) (by first | assumption | simpa using hc43)).symm | exact (mK (by omega) (fun z hz => h3 z (by omega))).symm
       · refine tt ⟨(vF hs0),tt ⟨(vF hs1),tt ⟨(AE (inp.getD n []) c n hc (show n < c.chans.length by omega) (hs n)),tt (cd (fun hc43 => ?_) (fun hc43 => ?_))⟩⟩⟩
         · refine tt ⟨?_,oK⟩
           first | exact (mG (by omega)).symm | exact (mH (n := n) (by omega) (by omega)).symm | exact (mI (n := n) (by omega) (by omega) (by show ¬(c.chans.getD n ge).frm = -1; omega)).symm | exact (mJ (n := n) (by omega) (by first | assumption | simpa using hc43)).symm | exact (mK (by omega) (fun z hz => h3 z (by omega))).symm
         · refine ⟨w6,tt ⟨(n + 1),rfl,?_,(?_ : inp.length - (n + 1) < inp.length - n)⟩⟩
           · exact ⟨by omega,fM h3 (Gb (by omega) (by first | exact .inl (by omega) | exact .inr (by show (c.chans.getD n ge).frm = -1; omega)) (by first | assumption | simpa using hc43))⟩
           · omega
   · refine tt ⟨?_,oK⟩
     first | exact (mG (by omega)).symm | exact (mH (n := n) (by omega) (by omega)).symm | exact (mI (n := n) (by omega) (by omega) (by show ¬(c.chans.getD n ge).frm = -1; omega)).symm | exact (mJ (n := n) (by omega) (by first | assumption | simpa using hc43)).symm | exact (mK (by omega) (fun z hz => h3 z (by omega))).symm
end Go.Proofs.Ytckgpflobhpnpaa
