/-
  The reference of streams: comparisons, inputs; the laws: helpers.
-/
import Derived.Test.YtckgpflobhpnpaaGreatQSuD
import Derived.Test.YtckgpflobhpnpaaGreatQStS
import Derived.Test.YtckgpflobhpnpaaGreatQNeP
namespace Go.Proofs.YtckgpflobhpnpaaGreat
open Go.RowKit
set_option linter.unusedVariables false
set_option linter.unusedSimpArgs false
abbrev zT : D := (.agg [(dL 6 gL ab aF.procs),(dL 5 ee bk aF.chans)])
abbrev zU (c : Ci) : List D := [(dL 6 gL ab c.procs),(dL 5 ee bk c.chans)]
abbrev sS (i : Nat) : D := (i6 ((i + 1 : Nat) : Int))
set_option maxRecDepth 100000
abbrev N5 (a b : List Int) : Ct := ⟨50,[(LI a),(LI b)],false,(dB (sg a b))⟩
abbrev tS (a : List Int) (b : List Int) : Lp (Nat) := pC [0,1,5] 0 (fun (i : Nat) => ⟨[(0,(LI a)),(1,(LI b)),(5,(i6 (i : Int)))],[]⟩) (fun (i : Nat) => i ≤ a.length∧i ≤ b.length∧∀ j,j < i → a.getD j 0 = b.getD j 0) (fun (i : Nat) => a.length - i)
theorem IW (a b : List Int) (ha : a.length ≤ 9223372036854775807) : CC (N5 a b) := by
 refine ah.vc (V := TT 2 (GO (tS a b) 0 (∀ i,(tS a b).inv i → TT 4 (CD ((i : Int) < (a.length : Int)) (CS ((i : Int) ≥ (b.length : Int)) (TT 4 ((True∧(decide ((i : Int) ≥ (b.length : Int))) = true)∧TT 3 (false = (sg a b)∧True))) (TT 4 ((True∧(decide ((i : Int) ≥ (b.length : Int))) = false)∧TT 2 (IX (i : Int) a.length∧TT 3 (IX (i : Int) b.length∧TT 3 (CN ((a.getD i 0) = (b.getD i 0)) (TT 2 (false = (sg a b)∧True)) (TT 1 (W6 ((i + 1 : Nat) : Int)∧TT 1 (AG (tS a b) i (i + 1)))))))))) (TT 2 (true = (sg a b)∧True)))))) (.l (tS a b) 0 (fun i => .b 9 (.s 4 ((i : Int) ≥ (b.length : Int)) (.w 4 [(4,.val (dB true))] <| .e) (.w 4 [(4,.val (dB false))] <| .b 26 (.e) (.w 3 [(1,.val (sS i))] <| .e))) (.e))) Tryz.func50 rfl rfl rfl (by kernel_rfl) ?_
 refine tt ⟨rfl,⟨by omega,by omega,fun j hj => by omega⟩,?_⟩
 intro i hinv
 obtain ⟨hi,hi2,h3⟩ := hinv
 refine tt (cd (fun hc9 => ?_) (fun hc9 => ?_))
 · refine ⟨fun hs0 => ?_,fun hs0 => ?_⟩
   · refine tt ⟨(vT hs0),tt ⟨?_,oK⟩⟩
     first | exact (nY (i := i) (by omega) hi2 h3 (fun q => by omega)).symm | exact (nY (i := i) (by omega) hi2 h3 (fun q => by simp_all)).symm | exact (yj (by omega) (fun j hj => h3 j (by omega))).symm
   · refine tt ⟨(vF hs0),tt ⟨ix,tt ⟨ix,tt (cn (fun hc26 => ?_) (fun hc26 => ?_))⟩⟩⟩
     · refine tt ⟨?_,oK⟩
       first | exact (nY (i := i) (by omega) hi2 h3 (fun q => by omega)).symm | exact (nY (i := i) (by omega) hi2 h3 (fun q => by simp_all)).symm | exact (yj (by omega) (fun j hj => h3 j (by omega))).symm
     · refine tt ⟨w6,tt ⟨(i + 1),rfl,?_,(?_ : a.length - (i + 1) < a.length - i)⟩⟩
       · exact ⟨by omega,by omega,eJ h3 (by simpa using hc26)⟩
       · omega
 · refine tt ⟨?_,oK⟩
   first | exact (nY (i := i) (by omega) hi2 h3 (fun q => by omega)).symm | exact (nY (i := i) (by omega) hi2 h3 (fun q => by simp_all)).symm | exact (yj (by omega) (fun j hj => h3 j (by omega))).symm
abbrev K0 (a b : List (List Int)) : Ct := ⟨18,[(dL 1 ac [] a),(dL 1 ac [] b)],false,(dB (er a b))⟩
abbrev tT (a : List (List Int)) (b : List (List Int)) : Lp (Nat) := pC [0,1,5] 0 (fun (i : Nat) => ⟨[(0,(dL 1 ac [] a)),(1,(dL 1 ac [] b)),(5,(i6 (i : Int)))],[]⟩) (fun (i : Nat) => i ≤ a.length∧∀ q,q < i → (!decide (dj (a.getD q []) (b.getD q []) < (a.getD q []).length)) = true) (fun (i : Nat) => a.length - i)
theorem yr (a b : List (List Int)) (ha : a.length ≤ 9223372036854775807) (hsa : ∀ i,(a.getD i []).length ≤ 9223372036854775807) : CC (K0 a b) := by
 refine ah.vc (V := TT 6 (CN ((a.length : Int) = (b.length : Int)) (TT 2 (false = (er a b)∧True)) (TT 1 (GO (tT a b) 0 (∀ i,(tT a b).inv i → TT 4 (CD ((i : Int) < (a.length : Int)) (TT 2 (IX (i : Int) a.length∧TT 3 (IX (i : Int) b.length∧TT 1 (CC (N5 (a.getD i []) (b.getD i []))∧TT 1 (CB (!(sg (a.getD i []) (b.getD i []))) (TT 2 (false = (er a b)∧True)) (TT 1 (W6 ((i + 1 : Nat) : Int)∧TT 1 (AG (tT a b) i (i + 1))))))))) (TT 2 (true = (er a b)∧True)))))))) (.b 10 (.e) (.l (tT a b) 0 (fun i => .b 14 (.w 6 [(8,(N5 (a.getD i []) (b.getD i [])).O)] <| .b 26 (.e) (.w 5 [(1,.val (sS i))] <| .e)) (.e)))) Tryz.func18 rfl rfl rfl (by kernel_rfl) ?_
 refine tt (cn (fun hc10 => ?_) (fun hc10 => ?_))
 · refine tt ⟨?_,oK⟩
   first | exact (nJ (by omega)).symm | exact (nM (i := i) (by omega) (by unfold sg at hc26; simpa using hc26)).symm | exact (nN (by omega) (fun q hq => h3 q (by omega))).symm
 · refine tt ⟨rfl,⟨by omega,fun q hq => by omega⟩,?_⟩
   intro i hinv
   obtain ⟨hi,h3⟩ := hinv
   refine tt (cd (fun hc14 => ?_) (fun hc14 => ?_))
   · refine tt ⟨ix,tt ⟨ix,tt ⟨(IW (a.getD i []) (b.getD i []) (hsa i)),tt ⟨fun hc26 => ?_,fun hc26 => ?_⟩⟩⟩⟩
     · refine tt ⟨?_,oK⟩
       first | exact (nJ (by omega)).symm | exact (nM (i := i) (by omega) (by unfold sg at hc26; simpa using hc26)).symm | exact (nN (by omega) (fun q hq => h3 q (by omega))).symm
     · refine tt ⟨w6,tt ⟨(i + 1),rfl,?_,(?_ : a.length - (i + 1) < a.length - i)⟩⟩
       · exact ⟨by omega,eJ h3 (show sg (a.getD i []) (b.getD i []) = true by simpa using hc26)⟩
       · omega
   · refine tt ⟨?_,oK⟩
     first | exact (nJ (by omega)).symm | exact (nM (i := i) (by omega) (by unfold sg at hc26; simpa using hc26)).symm | exact (nN (by omega) (fun q hq => h3 q (by omega))).symm
abbrev Mx (a b : List (List Int)) : Ct := ⟨38,[(dL 1 ac [] a),(dL 1 ac [] b)],false,(dB (pR a b))⟩
theorem Df (a b : List (List Int)) (ha : a.length ≤ 9223372036854775807) (hsa : ∀ i,(a.getD i []).length ≤ 9223372036854775807) (hb : b.length ≤ 9223372036854775807) (hsb : ∀ i,(b.getD i []).length ≤ 9223372036854775807) : CC (Mx a b) := by
 refine ah.vc (V := TT 1 (CS ((er a b) = true) (TT 2 (CC (K0 a b)∧(True∧(er a b) = true)∧TT 2 (CC (K0 b a)∧TT 3 ((er b a) = (pR a b)∧True)))) (TT 2 (CC (K0 a b)∧(True∧(er a b) = false)∧TT 6 (false = (pR a b)∧True))))) (.s 1 ((er a b) = true) (.w 1 [(2,(K0 a b).O),(3,.val (dB true)),(6,(K0 b a).O)] <| .e) (.w 1 [(2,(K0 a b).O),(3,.val (dB false))] <| .e)) Tryz.func38 rfl rfl rfl (by kernel_rfl) ?_
 refine tt ⟨fun hs0 => ?_,fun hs0 => ?_⟩
 · refine tt ⟨(yr a b ha hsa),⟨(bT hs0),tt ⟨(yr b a hb hsb),tt ⟨?_,oK⟩⟩⟩⟩
   first | exact (G8 (by simpa using hs0)).symm | exact (C7 (by simpa using hs0)).symm
 · refine tt ⟨(yr a b ha hsa),⟨(bF hs0),tt ⟨?_,oK⟩⟩⟩
   first | exact (G8 (by simpa using hs0)).symm | exact (C7 (by simpa using hs0)).symm
abbrev K1 (a b : List Int) : Ct := ⟨30,[(LI a),(LI b)],false,(dB (decide (a = b)))⟩
abbrev ri (a : List Int) (b : List Int) : Lp (Nat) := pC [0,1,5] 0 (fun (k : Nat) => ⟨[(0,(LI a)),(1,(LI b)),(5,(i6 (k : Int)))],[]⟩) (fun (k : Nat) => k ≤ a.length∧∀ z,z < k → a.getD z 0 = b.getD z 0) (fun (k : Nat) => a.length - k)
theorem He (a b : List Int) (ha : a.length ≤ 9223372036854775807) : CC (K1 a b) := by
 refine ah.vc (V := TT 6 (CN ((a.length : Int) = (b.length : Int)) (TT 2 (false = (decide (a = b))∧True)) (TT 1 (GO (ri a b) 0 (∀ k,(ri a b).inv k → TT 4 (CD ((k : Int) < (a.length : Int)) (TT 2 (IX (k : Int) a.length∧TT 3 (IX (k : Int) b.length∧TT 2 (CN ((a.getD k 0) = (b.getD k 0)) (TT 2 (false = (decide (a = b))∧True)) (TT 1 (W6 ((k + 1 : Nat) : Int)∧TT 1 (AG (ri a b) k (k + 1)))))))) (TT 2 (true = (decide (a = b))∧True)))))))) (.b 10 (.e) (.l (ri a b) 0 (fun k => .b 14 (.b 25 (.e) (.w 5 [(1,.val (i6 ((k + 1 : Nat) : Int)))] <| .e)) (.e)))) Tryz.func30 rfl rfl rfl (by kernel_rfl) ?_
 refine tt (cn (fun hc10 => ?_) (fun hc10 => ?_))
 · refine tt ⟨?_,oK⟩
   first | exact (decide_eq_false (fun e => by subst e; omega)).symm | exact (decide_eq_false (same_no (k := k) (by simpa using hc25))).symm | exact (decide_eq_true (rT (by omega) (by omega) hall)).symm
 · refine tt ⟨rfl,⟨by omega,fun z hz => by omega⟩,?_⟩
   intro k hinv
   obtain ⟨hk,hall⟩ := hinv
   refine tt (cd (fun hc14 => ?_) (fun hc14 => ?_))
   · refine tt ⟨ix,tt ⟨ix,tt (cn (fun hc25 => ?_) (fun hc25 => ?_))⟩⟩
     · refine tt ⟨?_,oK⟩
       first | exact (decide_eq_false (fun e => by subst e; omega)).symm | exact (decide_eq_false (same_no (k := k) (by simpa using hc25))).symm | exact (decide_eq_true (rT (by omega) (by omega) hall)).symm
     · refine tt ⟨w6,tt ⟨(k + 1),rfl,?_,(?_ : a.length - (k + 1) < a.length - k)⟩⟩
       · exact ⟨by omega,eJ hall (by simpa using hc25)⟩
       · omega
   · refine tt ⟨?_,oK⟩
     first | exact (decide_eq_false (fun e => by subst e; omega)).symm | exact (decide_eq_false (same_no (k := k) (by simpa using hc25))).symm | exact (decide_eq_true (rT (by omega) (by omega) hall)).symm
abbrev K2 (a b : Rs) : Ct := ⟨12,[(.agg [(dL 1 ac [] a.l),(LI a.c),(i6 a.e)]),(.agg [(dL 1 ac [] b.l),(LI b.c),(i6 b.e)])],false,(dB (oA a b))⟩
theorem yu (a b : Rs) (hl : a.l.length ≤ 9223372036854775807) (hsl : ∀ i,(a.l.getD i []).length ≤ 9223372036854775807) (hbl : b.l.length ≤ 9223372036854775807) (hsb : ∀ i,(b.l.getD i []).length ≤ 9223372036854775807) (hcc : a.c.length ≤ 9223372036854775807) : CC (K2 a b) := by
 refine ah.vc (V := TT 3 (CS (a.e = b.e) (CS ((pR a.l b.l) = true) (TT 5 ((True∧(decide (a.e = b.e)) = true)∧TT 4 (CC (Mx a.l b.l)∧TT 1 ((True∧(pR a.l b.l) = true)∧TT 4 (CC (K1 a.c b.c)∧TT 3 ((decide (a.c = b.c)) = (oA a b)∧True)))))) (TT 5 ((True∧(decide (a.e = b.e)) = true)∧TT 4 (CC (Mx a.l b.l)∧TT 1 ((True∧(pR a.l b.l) = false)∧TT 8 (false = (oA a b)∧True)))))) (TT 5 ((True∧(decide (a.e = b.e)) = false)∧TT 15 (false = (oA a b)∧True))))) (.s 1 (a.e = b.e) (.s 1 ((pR a.l b.l) = true) (.w 1 [(5,.val (dB true)),(10,(Mx a.l b.l).O),(12,.val (dB true)),(17,(K1 a.c b.c).O)] <| .e) (.w 1 [(5,.val (dB true)),(10,(Mx a.l b.l).O),(12,.val (dB false))] <| .e)) (.w 1 [(5,.val (dB false))] <| .e)) Tryz.func12 rfl rfl rfl (by kernel_rfl) ?_
 refine tt ⟨fun hs0 => ?_,fun hs0 => ?_⟩
 · refine ⟨fun hs1 => ?_,fun hs1 => ?_⟩
   · refine tt ⟨(vT hs0),tt ⟨(Df a.l b.l hl hsl hbl hsb),tt ⟨(bT hs1),tt ⟨(He a.c b.c hcc),tt ⟨?_,oK⟩⟩⟩⟩⟩
     first | exact (yk hs0).symm | exact (yl (by simpa using hs1)).symm | exact (ym hs0 (by simpa using hs1)).symm
   · refine tt ⟨(vT hs0),tt ⟨(Df a.l b.l hl hsl hbl hsb),tt ⟨(bF hs1),tt ⟨?_,oK⟩⟩⟩⟩
     first | exact (yk hs0).symm | exact (yl (by simpa using hs1)).symm | exact (ym hs0 (by simpa using hs1)).symm
 · refine tt ⟨(vF hs0),tt ⟨?_,oK⟩⟩
   first | exact (yk hs0).symm | exact (yl (by simpa using hs1)).symm | exact (ym hs0 (by simpa using hs1)).symm
abbrev N6 (c : Ci) (b : List Int) : Ct := ⟨10,[(.agg (zU c)),(LY b)],true,(dL 1 ac [] (ct c b))⟩
abbrev gk (c : Ci) (b : List Int) : Lp (Nat × Nat) := wk [2,5,6,7] 3 (fun (i : Nat) (p0 : Nat) => ⟨[(2,(.ptr 0 0 0 0)),(5,(.own 1)),(6,(.ptr 2 0 0 0)),(7,(i6 (i : Int)))],[(.var 33 (zU c)),(.arr 42 1 ac [] (tab (r7 c b) i)),(.var 84 [(LY b),(i6 (p0 : Int))])]⟩) (fun (i : Nat) (p0 : Nat) => i ≤ c.chans.length∧p0 = inQ c b i∧p0 ≤ 10 * i) (fun (i : Nat) (p0 : Nat) => c.chans.length - i)
abbrev oa (c : Ci) (b : List Int) (i : Nat) (p0 : Nat) : Lp (Nat) := pC [2,5,6,7,8,9,10] 4 (fun (k : Nat) => ⟨[(2,(.ptr 0 0 0 0)),(5,(.own 1)),(6,(.ptr 2 0 0 0)),(7,(i6 (i : Int))),(8,(.own 3)),(9,(i6 (((b.getD p0 0 % 8).toNat : Nat) : Int))),(10,(i6 (k : Int)))],[(.var 33 (zU c)),(.arr 42 1 ac [] (tab (r7 c b) i)),(.var 84 [(LY b),(i6 (p0 : Int))]),(.arr 3 1 (aa .i64) 0 (tab (mG b p0 (c.chans.getD i bk).w) k))]⟩) (fun (k : Nat) => k ≤ (b.getD p0 0 % 8).toNat∧(k = 0 ∨ (c.chans.getD i bk).frm < 0)) (fun (k : Nat) => (b.getD p0 0 % 8).toNat - k)
theorem Ep (c : Ci) (b : List Int) (hc : aZ c) (hb : lK b) : CC (N6 c b) := by
 have hnl := hc.nl
 have hcl := hc.cl
 refine ah.vc (V := TT 2 (an [] ((tab (r7 c b) 0).map ac)∧TT 6 (GO (gk c b) (0,0) (∀ i p0,(gk c b).inv (i,p0) → TT 5 (CD ((i : Int) < (c.chans.length : Int)) (an [] (([] : List Int).map (aa .i64))∧TT 2 (CC (Em b p0)∧((8 : Int) ≠ 0∧(Int.tmod (b.getD p0 0) 8) = (((b.getD p0 0 % 8).toNat : Nat) : Int))∧TT 2 (GO (oa c b i p0) 0 (∀ k,(oa c b i p0).inv k → CS ((k : Int) < (((b.getD p0 0 % 8).toNat : Nat) : Int)) (TT 3 ((True∧(decide ((k : Int) < (((b.getD p0 0 % 8).toNat : Nat) : Int))) = true)∧TT 3 (IX (i : Int) c.chans.length∧TT 4 (CD (((c.chans.getD i bk).frm) < 0) (TT 3 (W6 ((1 + k : Nat) : Int)∧CC (zR b p0 (1 + k))∧CC (Em b (p0 + (1 + k)))∧TT 3 (IX (i : Int) c.chans.length∧TT 2 (CC (Mu ((c.chans.getD i bk).w))∧(True∧(IntKind.wrap .i64 (BitVec.ofInt (IntKind.i64).bits (b.getD (p0 + (1 + k)) 0) &&& BitVec.ofInt (IntKind.i64).bits (am ((c.chans.getD i bk).w))).toNat) = (mG b p0 (c.chans.getD i bk).w k))∧an [[(i6 (mG b p0 (c.chans.getD i bk).w k))]] ([mG b p0 (c.chans.getD i bk).w k].map (aa .i64))∧((tab (mG b p0 (c.chans.getD i bk).w) k).length + ([mG b p0 (c.chans.getD i bk).w k].map (aa .i64)).length ≤ 137438953472∧(tab (mG b p0 (c.chans.getD i bk).w) k).map (aa .i64) ++ [mG b p0 (c.chans.getD i bk).w k].map (aa .i64) = (tab (mG b p0 (c.chans.getD i bk).w) (k + 1)).map (aa .i64))∧TT 2 (W6 ((k + 1 : Nat) : Int)∧TT 1 (AG (oa c b i p0) k (k + 1))))))) (TT 3 (IX (i : Int) c.chans.length∧TT 3 (CD (((c.chans.getD i bk).frm) < 0) (TT 2 (W6 ((1 + ((b.getD p0 0 % 8).toNat) : Nat) : Int)∧CC (zR b p0 (1 + ((b.getD p0 0 % 8).toNat)))∧TT 3 (an [[(LI (tab (mG b p0 (c.chans.getD i bk).w) k))]] ([tab (mG b p0 (c.chans.getD i bk).w) k].map ac)∧((tab (r7 c b) i).length + ([tab (mG b p0 (c.chans.getD i bk).w) k].map ac).length ≤ 137438953472∧(tab (r7 c b) i).map ac ++ [tab (mG b p0 (c.chans.getD i bk).w) k].map ac = (tab (r7 c b) (i + 1)).map ac)∧TT 2 (W6 ((i + 1 : Nat) : Int)∧TT 1 (AG (gk c b) (i,p0) (i + 1,p0 + (1 + (b.getD p0 0 % 8).toNat))))))) (TT 2 (an [[(LI (tab (mG b p0 (c.chans.getD i bk).w) k))]] ([tab (mG b p0 (c.chans.getD i bk).w) k].map ac)∧((tab (r7 c b) i).length + ([tab (mG b p0 (c.chans.getD i bk).w) k].map ac).length ≤ 137438953472∧(tab (r7 c b) i).map ac ++ [tab (mG b p0 (c.chans.getD i bk).w) k].map ac = (tab (r7 c b) (i + 1)).map ac)∧TT 2 (W6 ((i + 1 : Nat) : Int)∧TT 1 (AG (gk c b) (i,p0) (i + 1,p0)))))))))))) (TT 3 ((True∧(decide ((k : Int) < (((b.getD p0 0 % 8).toNat : Nat) : Int))) = false)∧TT 11 (IX (i : Int) c.chans.length∧TT 3 (CD (((c.chans.getD i bk).frm) < 0) (TT 2 (W6 ((1 + ((b.getD p0 0 % 8).toNat) : Nat) : Int)∧CC (zR b p0 (1 + ((b.getD p0 0 % 8).toNat)))∧TT 3 (an [[(LI (tab (mG b p0 (c.chans.getD i bk).w) k))]] ([tab (mG b p0 (c.chans.getD i bk).w) k].map ac)∧((tab (r7 c b) i).length + ([tab (mG b p0 (c.chans.getD i bk).w) k].map ac).length ≤ 137438953472∧(tab (r7 c b) i).map ac ++ [tab (mG b p0 (c.chans.getD i bk).w) k].map ac = (tab (r7 c b) (i + 1)).map ac)∧TT 2 (W6 ((i + 1 : Nat) : Int)∧TT 1 (AG (gk c b) (i,p0) (i + 1,p0 + (1 + (b.getD p0 0 % 8).toNat))))))) (TT 2 (an [[(LI (tab (mG b p0 (c.chans.getD i bk).w) k))]] ([tab (mG b p0 (c.chans.getD i bk).w) k].map ac)∧((tab (r7 c b) i).length + ([tab (mG b p0 (c.chans.getD i bk).w) k].map ac).length ≤ 137438953472∧(tab (r7 c b) i).map ac ++ [tab (mG b p0 (c.chans.getD i bk).w) k].map ac = (tab (r7 c b) (i + 1)).map ac)∧TT 2 (W6 ((i + 1 : Nat) : Int)∧TT 1 (AG (gk c b) (i,p0) (i + 1,p0))))))))))))) (TT 3 ((tab (r7 c b) i).map ac = (ct c b).map ac))))))) (.w 1 [(0,.box 42 1 ac [] (tab (r7 c b) 0))] <| .l (gk c b) (0,0) (fun ⟨i,p0⟩ => .b 18 (.w 6 [(0,.box 3 1 (aa .i64) 0 ([] : List Int))] <| .w 7 [(1,(Em b p0).O),(2,.val (i6 (((b.getD p0 0 % 8).toNat : Nat) : Int)))] <| .l (oa c b i p0) 0 (fun k => .s 9 ((k : Int) < (((b.getD p0 0 % 8).toNat : Nat) : Int)) (.w 9 [(3,.val (dB true))] <| .b 36 (.w 11 [(3,.val (i6 ((1 + k : Nat) : Int))),(4,(zR b p0 (1 + k)).O),(5,(Em b (p0 + (1 + k))).O),(12,(Mu ((c.chans.getD i bk).w)).O),(13,.val (i6 (mG b p0 (c.chans.getD i bk).w k))),(14,.box 3 1 (aa .i64) 0 [mG b p0 (c.chans.getD i bk).w k]),(15,.box 3 1 (aa .i64) 0 (tab (mG b p0 (c.chans.getD i bk).w) (k + 1)))] <| .w 10 [(1,.val (i6 ((k + 1 : Nat) : Int)))] <| .e) (.b 61 (.w 13 [(2,.val (i6 ((1 + ((b.getD p0 0 % 8).toNat) : Nat) : Int))),(3,(zR b p0 (1 + ((b.getD p0 0 % 8).toNat))).O)] <| .f 14 3 <| .w 14 [(2,.box 42 1 ac [] [tab (mG b p0 (c.chans.getD i bk).w) k]),(3,.box 42 1 ac [] (tab (r7 c b) (i + 1)))] <| .w 5 [(1,.val (sS i))] <| .e) (.f 14 3 <| .w 14 [(2,.box 42 1 ac [] [tab (mG b p0 (c.chans.getD i bk).w) k]),(3,.box 42 1 ac [] (tab (r7 c b) (i + 1)))] <| .w 5 [(1,.val (sS i))] <| .e))) (.w 9 [(3,.val (dB false))] <| .b 61 (.w 13 [(2,.val (i6 ((1 + ((b.getD p0 0 % 8).toNat) : Nat) : Int))),(3,(zR b p0 (1 + ((b.getD p0 0 % 8).toNat))).O)] <| .f 14 3 <| .w 14 [(2,.box 42 1 ac [] [tab (mG b p0 (c.chans.getD i bk).w) k]),(3,.box 42 1 ac [] (tab (r7 c b) (i + 1)))] <| .w 5 [(1,.val (sS i))] <| .e) (.f 14 3 <| .w 14 [(2,.box 42 1 ac [] [tab (mG b p0 (c.chans.getD i bk).w) k]),(3,.box 42 1 ac [] (tab (r7 c b) (i + 1)))] <| .w 5 [(1,.val (sS i))] <| .e)))) (.e))) Tryz.func10 rfl rfl rfl (by kernel_rfl) ?_
 refine tt ⟨oK,tt ⟨rfl,⟨by omega,rfl,by omega⟩,?_⟩⟩
 intro i p0 hinv
 obtain ⟨hi,hp0,hpb⟩ := hinv
 have hy := di hb p0
 refine tt (cd (fun hc18 => ?_) (fun hc18 => ?_))
 · refine ⟨oK,tt ⟨(nZ b p0 hb),⟨⟨om,(by rw [show (((b.getD p0 0 % 8).toNat : Nat) : Int) = b.getD p0 0 % 8 from Int.toNat_of_nonneg (by omega)]; exact Int.tmod_eq_emod_of_nonneg hy.1)⟩,tt ⟨rfl,⟨by omega,.inl rfl⟩,?_⟩⟩⟩⟩
   intro k hinv
   obtain ⟨hk,hkf⟩ := hinv
   refine ⟨fun hs0 => ?_,fun hs0 => ?_⟩
   · refine tt ⟨(vT hs0),tt ⟨ix,tt (cd (fun hc36 => ?_) (fun hc36 => ?_))⟩⟩
     · have hw : 1 ≤ (c.chans.getD i bk).w∧(c.chans.getD i bk).w ≤ 8 := bo.1 (hc.cw i (by omega))
       have hyk := di hb (p0 + (1 + k))
       refine tt ⟨w6,⟨(sR b p0 (1 + k) om),⟨(nZ b (p0 + (1 + k)) hb),tt ⟨ix,tt ⟨(zQ ((c.chans.getD i bk).w)),⟨⟨oK,(wJ (by omega) (by omega))⟩,⟨⟨⟨rfl,oK⟩,oK⟩,⟨(bz (by omega) rfl),tt ⟨w6,tt ⟨(k + 1),rfl,?_,(?_ : (b.getD p0 0 % 8).toNat - (k + 1) < (b.getD p0 0 % 8).toNat - k)⟩⟩⟩⟩⟩⟩⟩⟩⟩⟩
       · exact ⟨by omega,.inr (by first | assumption | omega)⟩
       · omega
     · have hkn : k = Jr c b p0 i := by unfold Jr; split <;> rename_i hfr <;> (have hfr : _ := hfr; unfold cr at hfr; omega)
       refine tt ⟨ix,tt (cd (fun hc61 => ?_) (fun hc61 => ?_))⟩
       · refine tt ⟨w6,⟨(sR b p0 (1 + ((b.getD p0 0 % 8).toNat)) om),tt ⟨⟨⟨rfl,oK⟩,oK⟩,⟨(bz (by omega) (by rw [hkn,hp0]; rfl)),tt ⟨w6,tt ⟨(i + 1,p0 + (1 + (b.getD p0 0 % 8).toNat)),rfl,?_,(?_ : c.chans.length - (i + 1) < c.chans.length - i)⟩⟩⟩⟩⟩⟩
         · exact ⟨by omega,by rw [inQ,if_pos hc61,← hp0],by omega⟩
         · omega
       · refine tt ⟨⟨⟨rfl,oK⟩,oK⟩,⟨(bz (by omega) (by rw [hkn,hp0]; rfl)),tt ⟨w6,tt ⟨(i + 1,p0),rfl,?_,(?_ : c.chans.length - (i + 1) < c.chans.length - i)⟩⟩⟩⟩
         · exact ⟨by omega,by rw [inQ,if_neg hc61]; exact hp0,by omega⟩
         · omega
   · refine tt ⟨(vF hs0),?_⟩
     have hkn : k = Jr c b p0 i := by unfold Jr; split <;> rename_i hfr <;> (have hfr : _ := hfr; unfold cr at hfr; omega)
     refine tt ⟨ix,tt (cd (fun hc61 => ?_) (fun hc61 => ?_))⟩
     · refine tt ⟨w6,⟨(sR b p0 (1 + ((b.getD p0 0 % 8).toNat)) om),tt ⟨⟨⟨rfl,oK⟩,oK⟩,⟨(bz (by omega) (by rw [hkn,hp0]; rfl)),tt ⟨w6,tt ⟨(i + 1,p0 + (1 + (b.getD p0 0 % 8).toNat)),rfl,?_,(?_ : c.chans.length - (i + 1) < c.chans.length - i)⟩⟩⟩⟩⟩⟩
       · exact ⟨by omega,by rw [inQ,if_pos hc61,← hp0],by omega⟩
       · omega
     · refine tt ⟨⟨⟨rfl,oK⟩,oK⟩,⟨(bz (by omega) (by rw [hkn,hp0]; rfl)),tt ⟨w6,tt ⟨(i + 1,p0),rfl,?_,(?_ : c.chans.length - (i + 1) < c.chans.length - i)⟩⟩⟩⟩
       · exact ⟨by omega,by rw [inQ,if_neg hc61]; exact hp0,by omega⟩
       · omega
 · refine tt (congrArg _ (?_ : (tab (r7 c b) i) = (ct c b)))
   rw [show i = c.chans.length by omega]; rfl
abbrev N7 (b : List Int) : Ct := ⟨11,[(LY b)],true,(dL 1 eh .empty (eV b))⟩
abbrev oc (b : List Int) : Lp (Nat) := pC [0,3,4] 1 (fun (i : Nat) => ⟨[(0,(LY b)),(3,(.own 0)),(4,(i6 (i : Int)))],[(.arr 9 1 eh .empty (tab (s7 b) i))]⟩) (fun (i : Nat) => i ≤ b.length∧i ≤ 40) (fun (i : Nat) => b.length - i)
theorem Er (b : List Int) (hb : lK b) : CC (N7 b) := by
 refine ah.vc (V := TT 1 (an [] ((tab (s7 b) 0).map eh)∧TT 2 (GO (oc b) 0 (∀ i,(oc b).inv i → CS ((i : Int) < (b.length : Int)) (TT 4 ((True∧(decide ((i : Int) < (b.length : Int))) = true)∧TT 3 (CD ((i : Int) < 40) (TT 1 (an [[(dS (bs [97]))],[(dS (bs [98]))],[(dS (bs [97]))],[(dS (bs [98]))],[(dS (bs [97]))],[(dS (bs [98]))],[(dS (bs [99]))]] ([(bs [97]),(bs [98]),(bs [97]),(bs [98]),(bs [97]),(bs [98]),(bs [99])].map eh)∧TT 2 (IX (i : Int) b.length∧TT 1 (QM (b.getD i 0) 7∧IX ((b.getD i 0) % 7) ([(bs [97]),(bs [98]),(bs [97]),(bs [98]),(bs [97]),(bs [98]),(bs [99])].length)∧(((b.getD i 0) % 7).toNat < [(bs [97]),(bs [98]),(bs [97]),(bs [98]),(bs [97]),(bs [98]),(bs [99])].length∧True)∧an [[(dS (([(bs [97]),(bs [98]),(bs [97]),(bs [98]),(bs [97]),(bs [98]),(bs [99])]).getD (((b.getD i 0) % 7).toNat) .empty))]] ([(([(bs [97]),(bs [98]),(bs [97]),(bs [98]),(bs [97]),(bs [98]),(bs [99])]).getD (((b.getD i 0) % 7).toNat) .empty)].map eh)∧((tab (s7 b) i).length + ([(([(bs [97]),(bs [98]),(bs [97]),(bs [98]),(bs [97]),(bs [98]),(bs [99])]).getD (((b.getD i 0) % 7).toNat) .empty)].map eh).length ≤ 137438953472∧(tab (s7 b) i).map eh ++ [(([(bs [97]),(bs [98]),(bs [97]),(bs [98]),(bs [97]),(bs [98]),(bs [99])]).getD (((b.getD i 0) % 7).toNat) .empty)].map eh = (tab (s7 b) (i + 1)).map eh)∧TT 2 (W6 ((i + 1 : Nat) : Int)∧TT 1 (AG (oc b) i (i + 1))))))) (TT 3 ((tab (s7 b) i).map eh = (eV b).map eh))))) (TT 4 ((True∧(decide ((i : Int) < (b.length : Int))) = false)∧TT 6 ((tab (s7 b) i).map eh = (eV b).map eh))))))) (.w 1 [(0,.box 9 1 eh .empty (tab (s7 b) 0))] <| .l (oc b) 0 (fun i => .s 3 ((i : Int) < (b.length : Int)) (.w 3 [(4,.val (dB true))] <| .b 13 (.w 5 [(1,.box 9 1 eh .empty [(bs [97]),(bs [98]),(bs [97]),(bs [98]),(bs [97]),(bs [98]),(bs [99])]),(6,.val (dI .u8 ((b.getD i 0) % 7))),(9,.box 9 1 eh .empty [(([(bs [97]),(bs [98]),(bs [97]),(bs [98]),(bs [97]),(bs [98]),(bs [99])]).getD (((b.getD i 0) % 7).toNat) .empty)]),(10,.box 9 1 eh .empty (tab (s7 b) (i + 1)))] <| .w 4 [(1,.val (sS i))] <| .e) (.e)) (.w 3 [(4,.val (dB false))] <| .e))) Tryz.func11 rfl rfl rfl (by kernel_rfl) ?_
 refine tt ⟨oK,tt ⟨rfl,(by omega),?_⟩⟩
 intro i hinv
 obtain ⟨hi,hi2⟩ := hinv
 refine ⟨fun hs0 => ?_,fun hs0 => ?_⟩
 · refine tt ⟨(vT hs0),tt (cd (fun hc13 => ?_) (fun hc13 => ?_))⟩
   · have hy := di hb i
     refine tt ⟨⟨⟨rfl,oK⟩,⟨rfl,oK⟩,⟨rfl,oK⟩,⟨rfl,oK⟩,⟨rfl,oK⟩,⟨rfl,oK⟩,⟨rfl,oK⟩,oK⟩,tt ⟨ix,tt ⟨qm,⟨ix,⟨⟨om,oK⟩,⟨⟨⟨rfl,oK⟩,oK⟩,⟨(bz (by omega) rfl),tt ⟨w6,tt ⟨(i + 1),rfl,(?_ : (i + 1) ≤ b.length∧(i + 1) ≤ 40),(?_ : b.length - (i + 1) < b.length - i)⟩⟩⟩⟩⟩⟩⟩⟩⟩
     · omega
     · omega
   · refine tt (congrArg _ (?_ : (tab (s7 b) i) = (eV b)))
     rw [show i = El b by unfold El; omega]; rfl
 · refine tt ⟨(vF hs0),tt (congrArg _ (?_ : (tab (s7 b) i) = (eV b)))⟩
   rw [show i = El b by unfold El; omega]; rfl
abbrev Es (c : Ci) (inp : List (List Int)) (n : Int) (cls : List ByteArray) : Ct := ⟨13,[(.agg (zU c)),(.agg [(dL 1 ac [] inp),(i6 n),(dL 1 eh .empty cls)])],true,(.agg [(dL 1 ac [] ((gK c inp n).l)),(LI ((gK c inp n).c)),(i6 ((gK c inp n).e))])⟩
theorem tU (c : Ci) (inp : List (List Int)) (n : Int) (cls : List ByteArray) (hc : aZ c) (hq : Ju c) (hl : inp.length ≤ 100000) (hs : ∀ z ∈ inp,z.length ≤ 100000) : CC (Es c inp n cls) := by
 refine ah.vc (V := TT 8 (CC (NW c inp n)∧TT 13 (((eP c inp n).1).map ac = ((gK c inp n).l).map ac∧((eP c inp n).2.1).map (aa .i64) = ((gK c inp n).c).map (aa .i64)∧((eP c inp n).2.2) = ((gK c inp n).e)∧True))) (.w 1 [(5,(NW c inp n).O)] <| .e) Tryz.func13 rfl rfl rfl (by kernel_rfl) ?_
 refine tt ⟨(zO c inp n hc hq hl hs),tt ⟨(congrArg _ (?_ : ((eP c inp n).1) = ((gK c inp n).l))),(congrArg _ (?_ : ((eP c inp n).2.1) = ((gK c inp n).c))),?_,oK⟩⟩
 all_goals (rfl)
abbrev K3 (c : Ci) (inp : List (List Int)) (n : Int) (cls : List ByteArray) : Ct := ⟨15,[(.agg (zU c)),(.agg [(dL 1 ac [] inp),(i6 n),(dL 1 eh .empty cls)])],true,(.agg [(dL 1 ac [] ((cO c inp cls).l)),(LI ((cO c inp cls).c)),(i6 ((cO c inp cls).e))])⟩
theorem yv (c : Ci) (inp : List (List Int)) (n : Int) (cls : List ByteArray) (hc : aZ c) (hq : Ju c) (hl : inp.length ≤ 100000) (hs : ∀ z ∈ inp,z.length ≤ 100000) (hcl : cls.length ≤ 9223372036854775807) : CC (K3 c inp n cls) := by
 refine ah.vc (V := TT 8 (CC (NV c inp cls)∧TT 13 (((gX c inp cls).1).map ac = ((cO c inp cls).l).map ac∧((gX c inp cls).2.1).map (aa .i64) = ((cO c inp cls).c).map (aa .i64)∧((gX c inp cls).2.2) = ((cO c inp cls).e)∧True))) (.w 1 [(5,(NV c inp cls).O)] <| .e) Tryz.func15 rfl rfl rfl (by kernel_rfl) ?_
 refine tt ⟨(Ek c inp cls hc hq hl hs hcl),tt ⟨(congrArg _ (?_ : ((gX c inp cls).1) = ((cO c inp cls).l))),(congrArg _ (?_ : ((gX c inp cls).2.1) = ((cO c inp cls).c))),?_,oK⟩⟩
 all_goals (rfl)
abbrev My (a b : List (List Int)) : Ct := ⟨19,[(dL 1 ac [] a),(dL 1 ac [] b)],false,(.agg [(i6 (((Mp a b) : Nat) : Int)),(i6 (((Mq a b) : Nat) : Int)),(dB ((dp a b).2.2))])⟩
theorem Dg (a b : List (List Int)) (ha : a.length ≤ 9223372036854775807) (hsa : ∀ i,(a.getD i []).length ≤ 9223372036854775807) : CC (My a b) := by
 refine ah.vc (V := TT 3 (CC (NQ a b)∧TT 13 (((((dp a b).1) = (((Mp a b) : Nat) : Int)∧((dp a b).2.1) = (((Mq a b) : Nat) : Int)∧((dp a b).2.2) = ((dp a b).2.2)∧True))∧((True∧True∧True∧True))))) (.w 1 [(2,(NQ a b).O)] <| .e) Tryz.func19 rfl rfl rfl (by kernel_rfl) ?_
 refine tt ⟨(GM a b ha hsa),tt ⟨⟨?_,?_,rfl,oK⟩,⟨oK,oK,oK,oK⟩⟩⟩
 · exact (zP a b).1
 · exact (zP a b).2
abbrev N8 (a b : List Int) : Ct := ⟨25,[(LI a),(LI b)],false,(dB (si a b))⟩
abbrev tV (a : List Int) (b : List Int) : Lp (Nat) := pC [0,1,5] 0 (fun (i : Nat) => ⟨[(0,(LI a)),(1,(LI b)),(5,(i6 (i : Int)))],[]⟩) (fun (i : Nat) => i ≤ a.length∧∀ q,q < i → decide (a.getD q 0 ≤ b.getD q 0) = true) (fun (i : Nat) => a.length - i)
theorem IY (a b : List Int) (ha : a.length ≤ 9223372036854775807) : CC (N8 a b) := by
 refine ah.vc (V := TT 6 (CN ((a.length : Int) = (b.length : Int)) (TT 2 (false = (si a b)∧True)) (TT 1 (GO (tV a b) 0 (∀ i,(tV a b).inv i → TT 4 (CD ((i : Int) < (a.length : Int)) (TT 2 (IX (i : Int) a.length∧TT 3 (IX (i : Int) b.length∧TT 2 (CD ((a.getD i 0) > (b.getD i 0)) (TT 2 (false = (si a b)∧True)) (TT 1 (W6 ((i + 1 : Nat) : Int)∧TT 1 (AG (tV a b) i (i + 1)))))))) (TT 2 (true = (si a b)∧True)))))))) (.b 10 (.e) (.l (tV a b) 0 (fun i => .b 14 (.b 25 (.e) (.w 5 [(1,.val (sS i))] <| .e)) (.e)))) Tryz.func25 rfl rfl rfl (by kernel_rfl) ?_
 refine tt (cn (fun hc10 => ?_) (fun hc10 => ?_))
 · refine tt ⟨?_,oK⟩
   first | exact (yn (by omega)).symm | exact (yo (i := i) (by omega) (by omega)).symm | exact (tN (by omega) (fun q hq => h3 q (by omega))).symm
 · refine tt ⟨rfl,⟨by omega,fun q hq => by omega⟩,?_⟩
   intro i hinv
   obtain ⟨hi,h3⟩ := hinv
   refine tt (cd (fun hc14 => ?_) (fun hc14 => ?_))
   · refine tt ⟨ix,tt ⟨ix,tt (cd (fun hc25 => ?_) (fun hc25 => ?_))⟩⟩
     · refine tt ⟨?_,oK⟩
       first | exact (yn (by omega)).symm | exact (yo (i := i) (by omega) (by omega)).symm | exact (tN (by omega) (fun q hq => h3 q (by omega))).symm
     · refine tt ⟨w6,tt ⟨(i + 1),rfl,?_,(?_ : a.length - (i + 1) < a.length - i)⟩⟩
       · exact ⟨by omega,eJ h3 (decide_eq_true (by omega))⟩
       · omega
   · refine tt ⟨?_,oK⟩
     first | exact (yn (by omega)).symm | exact (yo (i := i) (by omega) (by omega)).symm | exact (tN (by omega) (fun q hq => h3 q (by omega))).symm
abbrev N9 : Ct := ⟨31,[],true,zT⟩
theorem IZ  : CC N9 := by
 refine ah.vc (V := TT 8 (an [[(i6 16),(dS e0),(i6 0),(dS e0),(i6 0),(dS e0),.nils],[(i6 18),(dS e0),(i6 0),(dS e0),(i6 0),(dS e0),.nils]] ([(⟨16,e0,⟨0,e0⟩,⟨0,e0⟩,[]⟩ : Ex),(⟨18,e0,⟨0,e0⟩,⟨0,e0⟩,[]⟩ : Ex)].map (eA 2))∧TT 5 (an [[(dS (bs [114])),(i6 2),(i6 0),(i6 6),(dS e0),(i6 0),(dS e0),(i6 0),(dS e0),(dL 7 (eA 2) dE [(⟨16,e0,⟨0,e0⟩,⟨0,e0⟩,[]⟩ : Ex),(⟨18,e0,⟨0,e0⟩,⟨0,e0⟩,[]⟩ : Ex)]),(i6 0),(dS e0),(i6 0)]] ([(⟨(bs [114]),2,0,⟨6,e0,⟨0,e0⟩,⟨0,e0⟩,[(⟨16,e0,⟨0,e0⟩,⟨0,e0⟩,[]⟩ : Ex),(⟨18,e0,⟨0,e0⟩,⟨0,e0⟩,[]⟩ : Ex)]⟩,⟨0,e0,0⟩⟩ : Rg)].map km)∧TT 2 (an [[(i6 0),(i6 2),(i6 1),(dS e0),(i6 1),(dS e0),(i6 1),(dS e0),.nils]] ([(⟨0,2,⟨1,e0,⟨1,e0⟩,⟨1,e0⟩,[]⟩⟩ : Tk)].map lD)∧TT 3 (an [[(i6 1),(i6 2),(i6 1),(dS e0),(i6 1),(dS e0),(i6 1),(dS e0),.nils,(i6 6),(dS e0),(i6 0),(dS e0),(i6 0),(dS e0),(dL 7 (eA 2) dE [(⟨16,e0,⟨0,e0⟩,⟨0,e0⟩,[]⟩ : Ex),(⟨18,e0,⟨0,e0⟩,⟨0,e0⟩,[]⟩ : Ex)])]] ([(⟨1,2,⟨1,e0,⟨1,e0⟩,⟨1,e0⟩,[]⟩,⟨6,e0,⟨0,e0⟩,⟨0,e0⟩,[(⟨16,e0,⟨0,e0⟩,⟨0,e0⟩,[]⟩ : Ex),(⟨18,e0,⟨0,e0⟩,⟨0,e0⟩,[]⟩ : Ex)]⟩⟩ : Pt)].map oo)∧TT 4 (an [[(dS (bs [112])),(dS (bs [97])),(dL 13 km co [(⟨(bs [114]),2,0,⟨6,e0,⟨0,e0⟩,⟨0,e0⟩,[(⟨16,e0,⟨0,e0⟩,⟨0,e0⟩,[]⟩ : Ex),(⟨18,e0,⟨0,e0⟩,⟨0,e0⟩,[]⟩ : Ex)]⟩,⟨0,e0,0⟩⟩ : Rg)]),.nils,(dL 9 lD aQ [(⟨0,2,⟨1,e0,⟨1,e0⟩,⟨1,e0⟩,[]⟩⟩ : Tk)]),(dL 16 oo aL [(⟨1,2,⟨1,e0,⟨1,e0⟩,⟨1,e0⟩,[]⟩,⟨6,e0,⟨0,e0⟩,⟨0,e0⟩,[(⟨16,e0,⟨0,e0⟩,⟨0,e0⟩,[]⟩ : Ex),(⟨18,e0,⟨0,e0⟩,⟨0,e0⟩,[]⟩ : Ex)]⟩⟩ : Pt)])]] ([(⟨(bs [112]),(bs [97]),[(⟨(bs [114]),2,0,⟨6,e0,⟨0,e0⟩,⟨0,e0⟩,[(⟨16,e0,⟨0,e0⟩,⟨0,e0⟩,[]⟩ : Ex),(⟨18,e0,⟨0,e0⟩,⟨0,e0⟩,[]⟩ : Ex)]⟩,⟨0,e0,0⟩⟩ : Rg)],[],[(⟨0,2,⟨1,e0,⟨1,e0⟩,⟨1,e0⟩,[]⟩⟩ : Tk)],[(⟨1,2,⟨1,e0,⟨1,e0⟩,⟨1,e0⟩,[]⟩,⟨6,e0,⟨0,e0⟩,⟨0,e0⟩,[(⟨16,e0,⟨0,e0⟩,⟨0,e0⟩,[]⟩ : Ex),(⟨18,e0,⟨0,e0⟩,⟨0,e0⟩,[]⟩ : Ex)]⟩⟩ : Pt)]⟩ : Pr)].map gL)∧TT 2 (an [[(dS (bs [105])),(i6 2),(i6 0),(i6 (-1)),(i6 0)],[(dS (bs [111])),(i6 2),(i6 0),(i6 0),(i6 (-1))]] ([(⟨(bs [105]),2,0,(-1),0⟩ : Ch),(⟨(bs [111]),2,0,0,(-1)⟩ : Ch)].map ee)∧TT 3 ([(⟨(bs [112]),(bs [97]),[(⟨(bs [114]),2,0,⟨6,e0,⟨0,e0⟩,⟨0,e0⟩,[(⟨16,e0,⟨0,e0⟩,⟨0,e0⟩,[]⟩ : Ex),(⟨18,e0,⟨0,e0⟩,⟨0,e0⟩,[]⟩ : Ex)]⟩,⟨0,e0,0⟩⟩ : Rg)],[],[(⟨0,2,⟨1,e0,⟨1,e0⟩,⟨1,e0⟩,[]⟩⟩ : Tk)],[(⟨1,2,⟨1,e0,⟨1,e0⟩,⟨1,e0⟩,[]⟩,⟨6,e0,⟨0,e0⟩,⟨0,e0⟩,[(⟨16,e0,⟨0,e0⟩,⟨0,e0⟩,[]⟩ : Ex),(⟨18,e0,⟨0,e0⟩,⟨0,e0⟩,[]⟩ : Ex)]⟩⟩ : Pt)]⟩ : Pr)].map gL = aF.procs.map gL∧[(⟨(bs [105]),2,0,(-1),0⟩ : Ch),(⟨(bs [111]),2,0,0,(-1)⟩ : Ch)].map ee = aF.chans.map ee∧True)))))))) (.w 2 [(2,.frz 111 7 (eA 2) dE [(⟨16,e0,⟨0,e0⟩,⟨0,e0⟩,[]⟩ : Ex),(⟨18,e0,⟨0,e0⟩,⟨0,e0⟩,[]⟩ : Ex)])] <| .w 3 [(2,.frz 129 13 km co [(⟨(bs [114]),2,0,⟨6,e0,⟨0,e0⟩,⟨0,e0⟩,[(⟨16,e0,⟨0,e0⟩,⟨0,e0⟩,[]⟩ : Ex),(⟨18,e0,⟨0,e0⟩,⟨0,e0⟩,[]⟩ : Ex)]⟩,⟨0,e0,0⟩⟩ : Rg)]),(5,.frz 113 9 lD aQ [(⟨0,2,⟨1,e0,⟨1,e0⟩,⟨1,e0⟩,[]⟩⟩ : Tk)]),(9,.frz 117 16 oo aL [(⟨1,2,⟨1,e0,⟨1,e0⟩,⟨1,e0⟩,[]⟩,⟨6,e0,⟨0,e0⟩,⟨0,e0⟩,[(⟨16,e0,⟨0,e0⟩,⟨0,e0⟩,[]⟩ : Ex),(⟨18,e0,⟨0,e0⟩,⟨0,e0⟩,[]⟩ : Ex)]⟩⟩ : Pt)])] <| .w 4 [(1,.frz 63 6 gL ab [(⟨(bs [112]),(bs [97]),[(⟨(bs [114]),2,0,⟨6,e0,⟨0,e0⟩,⟨0,e0⟩,[(⟨16,e0,⟨0,e0⟩,⟨0,e0⟩,[]⟩ : Ex),(⟨18,e0,⟨0,e0⟩,⟨0,e0⟩,[]⟩ : Ex)]⟩,⟨0,e0,0⟩⟩ : Rg)],[],[(⟨0,2,⟨1,e0,⟨1,e0⟩,⟨1,e0⟩,[]⟩⟩ : Tk)],[(⟨1,2,⟨1,e0,⟨1,e0⟩,⟨1,e0⟩,[]⟩,⟨6,e0,⟨0,e0⟩,⟨0,e0⟩,[(⟨16,e0,⟨0,e0⟩,⟨0,e0⟩,[]⟩ : Ex),(⟨18,e0,⟨0,e0⟩,⟨0,e0⟩,[]⟩ : Ex)]⟩⟩ : Pt)]⟩ : Pr)]),(4,.frz 78 5 ee bk [(⟨(bs [105]),2,0,(-1),0⟩ : Ch),(⟨(bs [111]),2,0,0,(-1)⟩ : Ch)])] <| .e) Tryz.func31 rfl rfl rfl (by kernel_rfl) ?_
 refine tt ⟨⟨⟨rfl,rfl,rfl,rfl,rfl,rfl,rfl,oK⟩,⟨rfl,rfl,rfl,rfl,rfl,rfl,rfl,oK⟩,oK⟩,tt ⟨⟨⟨rfl,rfl,rfl,rfl,rfl,rfl,rfl,rfl,rfl,rfl,rfl,rfl,rfl,oK⟩,oK⟩,tt ⟨⟨⟨rfl,rfl,rfl,rfl,rfl,rfl,rfl,rfl,rfl,oK⟩,oK⟩,tt ⟨⟨⟨rfl,rfl,rfl,rfl,rfl,rfl,rfl,rfl,rfl,rfl,rfl,rfl,rfl,rfl,rfl,rfl,oK⟩,oK⟩,tt ⟨⟨⟨rfl,rfl,rfl,rfl,rfl,rfl,oK⟩,oK⟩,tt ⟨⟨⟨rfl,rfl,rfl,rfl,rfl,oK⟩,⟨rfl,rfl,rfl,rfl,rfl,oK⟩,oK⟩,tt ⟨(congrArg _ (?_ : [(⟨(bs [112]),(bs [97]),[(⟨(bs [114]),2,0,⟨6,e0,⟨0,e0⟩,⟨0,e0⟩,[(⟨16,e0,⟨0,e0⟩,⟨0,e0⟩,[]⟩ : Ex),(⟨18,e0,⟨0,e0⟩,⟨0,e0⟩,[]⟩ : Ex)]⟩,⟨0,e0,0⟩⟩ : Rg)],[],[(⟨0,2,⟨1,e0,⟨1,e0⟩,⟨1,e0⟩,[]⟩⟩ : Tk)],[(⟨1,2,⟨1,e0,⟨1,e0⟩,⟨1,e0⟩,[]⟩,⟨6,e0,⟨0,e0⟩,⟨0,e0⟩,[(⟨16,e0,⟨0,e0⟩,⟨0,e0⟩,[]⟩ : Ex),(⟨18,e0,⟨0,e0⟩,⟨0,e0⟩,[]⟩ : Ex)]⟩⟩ : Pt)]⟩ : Pr)] = aF.procs)),(congrArg _ (?_ : [(⟨(bs [105]),2,0,(-1),0⟩ : Ch),(⟨(bs [111]),2,0,0,(-1)⟩ : Ch)] = aF.chans)),oK⟩⟩⟩⟩⟩⟩⟩
 all_goals (rfl)
theorem Mz : oA (gK aF [[1,2,2],[]] 100) (⟨[[1,2,2],[1,3,1]],[3],0⟩ : Rs) = true := by unfold gK; rw [NX]; decide
theorem MA : oA (gK aF [[1,2,2],[]] 2) (⟨[[1,2,2],[1,3]],[2],0⟩ : Rs) = true := by unfold gK; rw [NY]; decide
theorem MB : oA (cO aF [[1,2,2],[]] [bs [97],bs [97]]) (⟨[[1,2,2],[1,3]],[2],0⟩ : Rs) = true := by unfold cO; rw [NZ]; decide
abbrev c7 : Ct := ⟨7,[],false,(dB true)⟩
theorem K4  : CC c7 := by
 refine ah.vc (V := TT 1 (CC N9∧TT 2 (an [[(i6 1)],[(i6 2)],[(i6 2)]] ([1,2,2].map (aa .i64))∧an [[(LI [1,2,2])],[.nils]] ([[1,2,2],[]].map ac)∧TT 1 (an [[(i6 1)],[(i6 2)],[(i6 2)]] ([1,2,2].map (aa .i64))∧an [[(i6 1)],[(i6 3)],[(i6 1)]] ([1,3,1].map (aa .i64))∧an [[(LI [1,2,2])],[(LI [1,3,1])]] ([[1,2,2],[1,3,1]].map ac)∧an [[(i6 3)]] ([3].map (aa .i64))∧TT 3 (an [[(i6 1)],[(i6 2)],[(i6 2)]] ([1,2,2].map (aa .i64))∧an [[(i6 1)],[(i6 3)]] ([1,3].map (aa .i64))∧an [[(LI [1,2,2])],[(LI [1,3])]] ([[1,2,2],[1,3]].map ac)∧an [[(i6 2)]] ([2].map (aa .i64))∧TT 6 ((vP [] [zT,(.agg [(dL 1 ac [] [[1,2,2],[]]),(i6 100),.nils])] (Es aF [[1,2,2],[]] 100 []).as∧CC (Es aF [[1,2,2],[]] 100 []))∧TT 1 (CC (K2 (gK aF [[1,2,2],[]] 100) (⟨[[1,2,2],[1,3,1]],[3],0⟩ : Rs))∧TT 1 ((True∧(!(oA (gK aF [[1,2,2],[]] 100) (⟨[[1,2,2],[1,3,1]],[3],0⟩ : Rs))) = false)∧TT 3 ((vP [] [zT,(.agg [(dL 1 ac [] [[1,2,2],[]]),(i6 2),.nils])] (Es aF [[1,2,2],[]] 2 []).as∧CC (Es aF [[1,2,2],[]] 2 []))∧TT 1 (CC (K2 (gK aF [[1,2,2],[]] 2) (⟨[[1,2,2],[1,3]],[2],0⟩ : Rs))∧TT 2 ((True∧(!(oA (gK aF [[1,2,2],[]] 2) (⟨[[1,2,2],[1,3]],[2],0⟩ : Rs))) = false)∧TT 2 (an [[(dS (bs [97]))],[(dS (bs [97]))]] ([(bs [97]),(bs [97])].map eh)∧TT 1 (CC (K3 aF [[1,2,2],[]] 0 [(bs [97]),(bs [97])])∧TT 1 (CC (K2 (cO aF [[1,2,2],[]] [(bs [97]),(bs [97])]) (⟨[[1,2,2],[1,3]],[2],0⟩ : Rs))∧TT 2 ((!(oA (cO aF [[1,2,2],[]] [(bs [97]),(bs [97])]) (⟨[[1,2,2],[1,3]],[2],0⟩ : Rs))) = false∧TT 1 (an [[(i6 4)]] ([4].map (aa .i64))∧an [[(LI [4])],[.nils]] ([[4],[]].map ac)∧TT 1 ((vP [] [zT,(.agg [(dL 1 ac [] [[4],[]]),(i6 1),.nils])] (Es aF [[4],[]] 1 []).as∧CC (Es aF [[4],[]] 1 []))∧TT 5 ((vP [] [zT,(.agg [(dL 1 ac [] [[1,2,2],[]]),(i6 101),.nils])] (Es aF [[1,2,2],[]] 101 []).as∧CC (Es aF [[1,2,2],[]] 101 []))∧TT 5 ((True∧(decide (((gK aF [[4],[]] 1).e) = 1)) = true)∧TT 4 ((True∧(decide (((gK aF [[1,2,2],[]] 101).e) = 1)) = true)∧TT 4 (CC (KP [[1,2,2],[1,3]] [[1,2,2],[1,3,1]])∧TT 1 ((True∧(er [[1,2,2],[1,3]] [[1,2,2],[1,3,1]]) = true)∧TT 4 (CC (KP [[1,2,2],[1,3,1]] [[1,2,2],[1,3]])∧TT 2 ((True∧(!(er [[1,2,2],[1,3,1]] [[1,2,2],[1,3]])) = true)∧TT 2 (an [[(i6 1)],[(i6 3)],[(i6 2)]] ([1,3,2].map (aa .i64))∧an [[.nils],[(LI [1,3,2])]] ([[],[1,3,2]].map ac)∧CC (My [[1,2,2],[1,3,1]] [[],[1,3,2]])∧TT 3 ((True∧(((((Mp [[1,2,2],[1,3,1]] [[],[1,3,2]]) : Nat) : Int) == 1) && (((((Mq [[1,2,2],[1,3,1]] [[],[1,3,2]]) : Nat) : Int) == 2) && (((dp [[1,2,2],[1,3,1]] [[],[1,3,2]]).2.2) == true))) = true)∧TT 4 (CC (My [[1,2,2],[1,3,1]] [[1,2,2],[1,3]])∧TT 5 ((((((Mp [[1,2,2],[1,3,1]] [[1,2,2],[1,3]]) : Nat) : Int) == 0) && (((((Mq [[1,2,2],[1,3,1]] [[1,2,2],[1,3]]) : Nat) : Int) == 0) && (((dp [[1,2,2],[1,3,1]] [[1,2,2],[1,3]]).2.2) == false))) = true∧True)))))))))))))))))))))))))))) (.w 1 [(0,N9.O)] <| .w 2 [(0,.frz 3 1 (aa .i64) 0 [1,2,2]),(1,.frz 42 1 ac [] [[1,2,2],[]])] <| .w 3 [(0,.frz 3 1 (aa .i64) 0 [1,2,2]),(1,.frz 3 1 (aa .i64) 0 [1,3,1]),(2,.frz 42 1 ac [] [[1,2,2],[1,3,1]]),(3,.frz 3 1 (aa .i64) 0 [3])] <| .w 4 [(0,.frz 3 1 (aa .i64) 0 [1,2,2]),(1,.frz 3 1 (aa .i64) 0 [1,3]),(2,.frz 42 1 ac [] [[1,2,2],[1,3]]),(3,.frz 3 1 (aa .i64) 0 [2])] <| .w 5 [(3,(Es aF [[1,2,2],[]] 100 []).O'),(5,(K2 (gK aF [[1,2,2],[]] 100) (⟨[[1,2,2],[1,3,1]],[3],0⟩ : Rs)).O),(7,.val (dB false)),(11,(Es aF [[1,2,2],[]] 2 []).O'),(13,(K2 (gK aF [[1,2,2],[]] 2) (⟨[[1,2,2],[1,3]],[2],0⟩ : Rs)).O),(16,.val (dB false)),(19,.box 9 1 eh .empty [(bs [97]),(bs [97])]),(21,(K3 aF [[1,2,2],[]] 0 [(bs [97]),(bs [97])]).O),(23,(K2 (cO aF [[1,2,2],[]] [(bs [97]),(bs [97])]) (⟨[[1,2,2],[1,3]],[2],0⟩ : Rs)).O)] <| .u 45 (.w 7 [(1,.frz 3 1 (aa .i64) 0 [4]),(2,.frz 42 1 ac [] [[4],[]]),(4,(Es aF [[4],[]] 1 []).O')] <| .w 8 [(3,(Es aF [[1,2,2],[]] 101 []).O')] <| .w 9 [(3,.val (dB true)),(8,.val (dB true)),(13,(KP [[1,2,2],[1,3]] [[1,2,2],[1,3,1]]).O),(15,.val (dB true)),(20,(KP [[1,2,2],[1,3,1]] [[1,2,2],[1,3]]).O),(23,.val (dB true)),(26,.frz 3 1 (aa .i64) 0 [1,3,2]),(27,.frz 42 1 ac [] [[],[1,3,2]]),(28,(My [[1,2,2],[1,3,1]] [[],[1,3,2]]).O),(32,.val (dB true)),(37,(My [[1,2,2],[1,3,1]] [[1,2,2],[1,3]]).O)] <| .e)) Tryz.func7 rfl rfl rfl (by kernel_rfl) ?_
 refine tt ⟨(IZ),tt ⟨⟨⟨rfl,oK⟩,⟨rfl,oK⟩,⟨rfl,oK⟩,oK⟩,⟨⟨⟨rfl,oK⟩,⟨rfl,oK⟩,oK⟩,tt ⟨⟨⟨rfl,oK⟩,⟨rfl,oK⟩,⟨rfl,oK⟩,oK⟩,⟨⟨⟨rfl,oK⟩,⟨rfl,oK⟩,⟨rfl,oK⟩,oK⟩,⟨⟨⟨rfl,oK⟩,⟨rfl,oK⟩,oK⟩,⟨⟨⟨rfl,oK⟩,oK⟩,tt ⟨⟨⟨rfl,oK⟩,⟨rfl,oK⟩,⟨rfl,oK⟩,oK⟩,⟨⟨⟨rfl,oK⟩,⟨rfl,oK⟩,oK⟩,⟨⟨⟨rfl,oK⟩,⟨rfl,oK⟩,oK⟩,⟨⟨⟨rfl,oK⟩,oK⟩,tt ⟨⟨⟨⟨rfl,rfl,oK⟩,⟨rfl,rfl,rfl,oK⟩,oK⟩,(tU aF [[1,2,2],[]] 100 [] cx mR (by decide) (by decide))⟩,tt ⟨(yu (gK aF [[1,2,2],[]] 100) (⟨[[1,2,2],[1,3,1]],[3],0⟩ : Rs) (sj cx).1 (sj cx).2.1 (by decide) (pS (by decide)) (sj cx).2.2),tt ⟨(mF Mz),tt ⟨⟨⟨⟨rfl,rfl,oK⟩,⟨rfl,rfl,rfl,oK⟩,oK⟩,(tU aF [[1,2,2],[]] 2 [] cx mR (by decide) (by decide))⟩,tt ⟨(yu (gK aF [[1,2,2],[]] 2) (⟨[[1,2,2],[1,3]],[2],0⟩ : Rs) (sj cx).1 (sj cx).2.1 (by decide) (pS (by decide)) (sj cx).2.2),tt ⟨(mF MA),tt ⟨⟨⟨rfl,oK⟩,⟨rfl,oK⟩,oK⟩,tt ⟨(yv aF [[1,2,2],[]] 0 [(bs [97]),(bs [97])] cx mR (by decide) (by decide) (by decide)),tt ⟨(yu (cO aF [[1,2,2],[]] [(bs [97]),(bs [97])]) (⟨[[1,2,2],[1,3]],[2],0⟩ : Rs) (sk cx).1 (sk cx).2.1 (by decide) (pS (by decide)) (sk cx).2.2),tt ⟨(MR MB),tt ⟨⟨⟨rfl,oK⟩,oK⟩,⟨⟨⟨rfl,oK⟩,⟨rfl,oK⟩,oK⟩,tt ⟨⟨⟨⟨rfl,rfl,oK⟩,⟨rfl,rfl,rfl,oK⟩,oK⟩,(tU aF [[4],[]] 1 [] cx mR (by decide) (by decide))⟩,tt ⟨⟨⟨⟨rfl,rfl,oK⟩,⟨rfl,rfl,rfl,oK⟩,oK⟩,(tU aF [[1,2,2],[]] 101 [] cx mR (by decide) (by decide))⟩,tt ⟨(vT N0),tt ⟨(vT N1),tt ⟨(x9 [[1,2,2],[1,3]] [[1,2,2],[1,3,1]] (by decide) (pS (by decide))),tt ⟨(bT (by decide)),tt ⟨(x9 [[1,2,2],[1,3,1]] [[1,2,2],[1,3]] (by decide) (pS (by decide))),tt ⟨(mT (by decide)),tt ⟨⟨⟨rfl,oK⟩,⟨rfl,oK⟩,⟨rfl,oK⟩,oK⟩,⟨⟨⟨rfl,oK⟩,⟨rfl,oK⟩,oK⟩,⟨(Dg [[1,2,2],[1,3,1]] [[],[1,3,2]] (by decide) (pS (by decide))),tt ⟨(bT (by decide)),tt ⟨(Dg [[1,2,2],[1,3,1]] [[1,2,2],[1,3]] (by decide) (pS (by decide))),tt ⟨?_,oK⟩⟩⟩⟩⟩⟩⟩⟩⟩⟩⟩⟩⟩⟩⟩⟩⟩⟩⟩⟩⟩⟩⟩⟩⟩⟩⟩⟩⟩⟩⟩⟩⟩⟩⟩⟩⟩
 decide
end Go.Proofs.YtckgpflobhpnpaaGreat
