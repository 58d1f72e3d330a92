/-
  The reference of streams: comparisons, inputs; the laws: helpers.
-/
import Derived.Test.YtckgpflobhpnpaaQSuD
import Derived.Test.YtckgpflobhpnpaaQStS
import Derived.Test.YtckgpflobhpnpaaQNeP
namespace Go.Proofs.Ytckgpflobhpnpaa
open Go.RowKit
set_option linter.unusedVariables false
set_option linter.unusedSimpArgs false
abbrev zX : D := (.agg [(dL 6 iB ac aH.procs),(dL 5 gM cb aH.chans)])
abbrev zY (c : Ci) : List D := [(dL 6 iB ac c.procs),(dL 5 gM cb c.chans)]
abbrev sS (i : Nat) : D := (i6 ((i + 1 : Nat) : Int))
set_option maxRecDepth 100000
abbrev NG (a b : List Int) : Ct := ⟨42,[(LI a),(LI b)],false,(dB (sj a b))⟩
abbrev tS (a : List Int) (b : List Int) : Lp (Nat) := oS [0,1,5] 0 (fun (i : Nat) => ⟨[(0,(LI a)),(1,(LI b)),(5,(i6 (i : Int)))],[]⟩) (fun (i : Nat) => i ≤ a.length∧i ≤ b.length∧∀ j,j < i → a.getD j 0 = b.getD j 0) (fun (i : Nat) => a.length - i)
theorem IY (a b : List Int) (ha : a.length ≤ 9223372036854775807) : CC (NG a b) := by
 refine ai.vc (V := TT 2 (GO (tS a b) 0 (∀ i,(tS a b).inv i → TT 4 (CD ((i : Int) < (a.length : Int)) (CS ((i : Int) ≥ (b.length : Int)) (TT 4 ((True∧(decide ((i : Int) ≥ (b.length : Int))) = true)∧TT 3 (false = (sj a b)∧True))) (TT 4 ((True∧(decide ((i : Int) ≥ (b.length : Int))) = false)∧TT 2 (IX (i : Int) a.length∧TT 3 (IX (i : Int) b.length∧TT 3 (CN ((a.getD i 0) = (b.getD i 0)) (TT 2 (false = (sj a b)∧True)) (TT 1 (W6 ((i + 1 : Nat) : Int)∧TT 1 (AG (tS a b) i (i + 1)))))))))) (TT 2 (true = (sj a b)∧True)))))) (.l (tS a b) 0 (fun i => .b 9 (.s 4 ((i : Int) ≥ (b.length : Int)) (.w 4 [(4,.val (dB true))] <| .e) (.w 4 [(4,.val (dB false))] <| .b 26 (.e) (.w 3 [(1,.val (sS i))] <| .e))) (.e))) Try.func42 rfl rfl rfl (by kernel_rfl) ?_
 refine tt ⟨rfl,⟨by omega,by omega,fun j hj => by omega⟩,?_⟩
 intro i hinv
 obtain ⟨hi,hi2,h3⟩ := hinv
 refine tt (cd (fun hc9 => ?_) (fun hc9 => ?_))
 · refine ⟨fun hs0 => ?_,fun hs0 => ?_⟩
   · refine tt ⟨(vT hs0),tt ⟨?_,oK⟩⟩
     first | exact (oa (i := i) (by omega) hi2 h3 (fun q => by omega)).symm | exact (oa (i := i) (by omega) hi2 h3 (fun q => by simp_all)).symm | exact (ym (by omega) (fun j hj => h3 j (by omega))).symm
   · refine tt ⟨(vF hs0),tt ⟨ix,tt ⟨ix,tt (cn (fun hc26 => ?_) (fun hc26 => ?_))⟩⟩⟩
     · refine tt ⟨?_,oK⟩
       first | exact (oa (i := i) (by omega) hi2 h3 (fun q => by omega)).symm | exact (oa (i := i) (by omega) hi2 h3 (fun q => by simp_all)).symm | exact (ym (by omega) (fun j hj => h3 j (by omega))).symm
     · refine tt ⟨w6,tt ⟨(i + 1),rfl,?_,(?_ : a.length - (i + 1) < a.length - i)⟩⟩
       · exact ⟨by omega,by omega,eJ h3 (by simpa using hc26)⟩
       · omega
 · refine tt ⟨?_,oK⟩
   first | exact (oa (i := i) (by omega) hi2 h3 (fun q => by omega)).symm | exact (oa (i := i) (by omega) hi2 h3 (fun q => by simp_all)).symm | exact (ym (by omega) (fun j hj => h3 j (by omega))).symm
abbrev KO (a b : List (List Int)) : Ct := ⟨28,[(dL 1 ab [] a),(dL 1 ab [] b)],false,(dB (dm a b))⟩
abbrev tT (a : List (List Int)) (b : List (List Int)) : Lp (Nat) := oS [0,1,5] 0 (fun (i : Nat) => ⟨[(0,(dL 1 ab [] a)),(1,(dL 1 ab [] b)),(5,(i6 (i : Int)))],[]⟩) (fun (i : Nat) => i ≤ a.length∧∀ q,q < i → (!decide (dk (a.getD q []) (b.getD q []) < (a.getD q []).length)) = true) (fun (i : Nat) => a.length - i)
theorem yx (a b : List (List Int)) (ha : a.length ≤ 9223372036854775807) (hsa : ∀ i,(a.getD i []).length ≤ 9223372036854775807) : CC (KO a b) := by
 refine ai.vc (V := TT 6 (CN ((a.length : Int) = (b.length : Int)) (TT 2 (false = (dm a b)∧True)) (TT 1 (GO (tT a b) 0 (∀ i,(tT a b).inv i → TT 4 (CD ((i : Int) < (a.length : Int)) (TT 2 (IX (i : Int) a.length∧TT 3 (IX (i : Int) b.length∧TT 1 (CC (NG (a.getD i []) (b.getD i []))∧TT 1 (CB (!(sj (a.getD i []) (b.getD i []))) (TT 2 (false = (dm a b)∧True)) (TT 1 (W6 ((i + 1 : Nat) : Int)∧TT 1 (AG (tT a b) i (i + 1))))))))) (TT 2 (true = (dm a b)∧True)))))))) (.b 10 (.e) (.l (tT a b) 0 (fun i => .b 14 (.w 6 [(8,(NG (a.getD i []) (b.getD i [])).O)] <| .b 26 (.e) (.w 5 [(1,.val (sS i))] <| .e)) (.e)))) Try.func28 rfl rfl rfl (by kernel_rfl) ?_
 refine tt (cn (fun hc10 => ?_) (fun hc10 => ?_))
 · refine tt ⟨?_,oK⟩
   first | exact (nN (by omega)).symm | exact (nO (i := i) (by omega) (by unfold sj at hc26; simpa using hc26)).symm | exact (nP (by omega) (fun q hq => h3 q (by omega))).symm
 · refine tt ⟨rfl,⟨by omega,fun q hq => by omega⟩,?_⟩
   intro i hinv
   obtain ⟨hi,h3⟩ := hinv
   refine tt (cd (fun hc14 => ?_) (fun hc14 => ?_))
   · refine tt ⟨ix,tt ⟨ix,tt ⟨(IY (a.getD i []) (b.getD i []) (hsa i)),tt ⟨fun hc26 => ?_,fun hc26 => ?_⟩⟩⟩⟩
     · refine tt ⟨?_,oK⟩
       first | exact (nN (by omega)).symm | exact (nO (i := i) (by omega) (by unfold sj at hc26; simpa using hc26)).symm | exact (nP (by omega) (fun q hq => h3 q (by omega))).symm
     · refine tt ⟨w6,tt ⟨(i + 1),rfl,?_,(?_ : a.length - (i + 1) < a.length - i)⟩⟩
       · exact ⟨by omega,eJ h3 (show sj (a.getD i []) (b.getD i []) = true by simpa using hc26)⟩
       · omega
   · refine tt ⟨?_,oK⟩
     first | exact (nN (by omega)).symm | exact (nO (i := i) (by omega) (by unfold sj at hc26; simpa using hc26)).symm | exact (nP (by omega) (fun q hq => h3 q (by omega))).symm
abbrev Me (a b : List (List Int)) : Ct := ⟨15,[(dL 1 ab [] a),(dL 1 ab [] b)],false,(dB (pS a b))⟩
theorem Dq (a b : List (List Int)) (ha : a.length ≤ 9223372036854775807) (hsa : ∀ i,(a.getD i []).length ≤ 9223372036854775807) (hb : b.length ≤ 9223372036854775807) (hsb : ∀ i,(b.getD i []).length ≤ 9223372036854775807) : CC (Me a b) := by
 refine ai.vc (V := TT 1 (CS ((dm a b) = true) (TT 2 (CC (KO a b)∧(True∧(dm a b) = true)∧TT 2 (CC (KO b a)∧TT 3 ((dm b a) = (pS a b)∧True)))) (TT 2 (CC (KO a b)∧(True∧(dm a b) = false)∧TT 6 (false = (pS a b)∧True))))) (.s 1 ((dm a b) = true) (.w 1 [(2,(KO a b).O),(3,.val (dB true)),(6,(KO b a).O)] <| .e) (.w 1 [(2,(KO a b).O),(3,.val (dB false))] <| .e)) Try.func15 rfl rfl rfl (by kernel_rfl) ?_
 refine tt ⟨fun hs0 => ?_,fun hs0 => ?_⟩
 · refine tt ⟨(yx a b ha hsa),⟨(bT hs0),tt ⟨(yx b a hb hsb),tt ⟨?_,oK⟩⟩⟩⟩
   first | exact (G7 (by simpa using hs0)).symm | exact (Dg (by simpa using hs0)).symm
 · refine tt ⟨(yx a b ha hsa),⟨(bF hs0),tt ⟨?_,oK⟩⟩⟩
   first | exact (G7 (by simpa using hs0)).symm | exact (Dg (by simpa using hs0)).symm
abbrev KP (a b : List Int) : Ct := ⟨30,[(LI a),(LI b)],false,(dB (decide (a = b)))⟩
abbrev rm (a : List Int) (b : List Int) : Lp (Nat) := oS [0,1,5] 0 (fun (k : Nat) => ⟨[(0,(LI a)),(1,(LI b)),(5,(i6 (k : Int)))],[]⟩) (fun (k : Nat) => k ≤ a.length∧∀ z,z < k → a.getD z 0 = b.getD z 0) (fun (k : Nat) => a.length - k)
theorem Hb (a b : List Int) (ha : a.length ≤ 9223372036854775807) : CC (KP a b) := by
 refine ai.vc (V := TT 6 (CN ((a.length : Int) = (b.length : Int)) (TT 2 (false = (decide (a = b))∧True)) (TT 1 (GO (rm a b) 0 (∀ k,(rm a b).inv k → TT 4 (CD ((k : Int) < (a.length : Int)) (TT 2 (IX (k : Int) a.length∧TT 3 (IX (k : Int) b.length∧TT 2 (CN ((a.getD k 0) = (b.getD k 0)) (TT 2 (false = (decide (a = b))∧True)) (TT 1 (W6 ((k + 1 : Nat) : Int)∧TT 1 (AG (rm a b) k (k + 1)))))))) (TT 2 (true = (decide (a = b))∧True)))))))) (.b 10 (.e) (.l (rm a b) 0 (fun k => .b 14 (.b 25 (.e) (.w 5 [(1,.val (i6 ((k + 1 : Nat) : Int)))] <| .e)) (.e)))) Try.func30 rfl rfl rfl (by kernel_rfl) ?_
 refine tt (cn (fun hc10 => ?_) (fun hc10 => ?_))
 · refine tt ⟨?_,oK⟩
   first | exact (decide_eq_false (fun e => by subst e; omega)).symm | exact (decide_eq_false (same_no (k := k) (by simpa using hc25))).symm | exact (decide_eq_true (rV (by omega) (by omega) hall)).symm
 · refine tt ⟨rfl,⟨by omega,fun z hz => by omega⟩,?_⟩
   intro k hinv
   obtain ⟨hk,hall⟩ := hinv
   refine tt (cd (fun hc14 => ?_) (fun hc14 => ?_))
   · refine tt ⟨ix,tt ⟨ix,tt (cn (fun hc25 => ?_) (fun hc25 => ?_))⟩⟩
     · refine tt ⟨?_,oK⟩
       first | exact (decide_eq_false (fun e => by subst e; omega)).symm | exact (decide_eq_false (same_no (k := k) (by simpa using hc25))).symm | exact (decide_eq_true (rV (by omega) (by omega) hall)).symm
     · refine tt ⟨w6,tt ⟨(k + 1),rfl,?_,(?_ : a.length - (k + 1) < a.length - k)⟩⟩
       · exact ⟨by omega,eJ hall (by simpa using hc25)⟩
       · omega
   · refine tt ⟨?_,oK⟩
     first | exact (decide_eq_false (fun e => by subst e; omega)).symm | exact (decide_eq_false (same_no (k := k) (by simpa using hc25))).symm | exact (decide_eq_true (rV (by omega) (by omega) hall)).symm
abbrev KQ (a b : Rs) : Ct := ⟨18,[(.agg [(dL 1 ab [] a.l),(LI a.c),(i6 a.e)]),(.agg [(dL 1 ab [] b.l),(LI b.c),(i6 b.e)])],false,(dB (oD a b))⟩
theorem yy (a b : Rs) (hl : a.l.length ≤ 9223372036854775807) (hsl : ∀ i,(a.l.getD i []).length ≤ 9223372036854775807) (hbl : b.l.length ≤ 9223372036854775807) (hsb : ∀ i,(b.l.getD i []).length ≤ 9223372036854775807) (hcc : a.c.length ≤ 9223372036854775807) : CC (KQ a b) := by
 refine ai.vc (V := TT 3 (CS (a.e = b.e) (CS ((pS a.l b.l) = true) (TT 5 ((True∧(decide (a.e = b.e)) = true)∧TT 4 (CC (Me a.l b.l)∧TT 1 ((True∧(pS a.l b.l) = true)∧TT 4 (CC (KP a.c b.c)∧TT 3 ((decide (a.c = b.c)) = (oD a b)∧True)))))) (TT 5 ((True∧(decide (a.e = b.e)) = true)∧TT 4 (CC (Me a.l b.l)∧TT 1 ((True∧(pS a.l b.l) = false)∧TT 8 (false = (oD a b)∧True)))))) (TT 5 ((True∧(decide (a.e = b.e)) = false)∧TT 15 (false = (oD a b)∧True))))) (.s 1 (a.e = b.e) (.s 1 ((pS a.l b.l) = true) (.w 1 [(5,.val (dB true)),(10,(Me a.l b.l).O),(12,.val (dB true)),(17,(KP a.c b.c).O)] <| .e) (.w 1 [(5,.val (dB true)),(10,(Me a.l b.l).O),(12,.val (dB false))] <| .e)) (.w 1 [(5,.val (dB false))] <| .e)) Try.func18 rfl rfl rfl (by kernel_rfl) ?_
 refine tt ⟨fun hs0 => ?_,fun hs0 => ?_⟩
 · refine ⟨fun hs1 => ?_,fun hs1 => ?_⟩
   · refine tt ⟨(vT hs0),tt ⟨(Dq a.l b.l hl hsl hbl hsb),tt ⟨(bT hs1),tt ⟨(Hb a.c b.c hcc),tt ⟨?_,oK⟩⟩⟩⟩⟩
     first | exact (yn hs0).symm | exact (yo (by simpa using hs1)).symm | exact (yp hs0 (by simpa using hs1)).symm
   · refine tt ⟨(vT hs0),tt ⟨(Dq a.l b.l hl hsl hbl hsb),tt ⟨(bF hs1),tt ⟨?_,oK⟩⟩⟩⟩
     first | exact (yn hs0).symm | exact (yo (by simpa using hs1)).symm | exact (yp hs0 (by simpa using hs1)).symm
 · refine tt ⟨(vF hs0),tt ⟨?_,oK⟩⟩
   first | exact (yn hs0).symm | exact (yo (by simpa using hs1)).symm | exact (yp hs0 (by simpa using hs1)).symm
abbrev c8 (c : Ci) (b : List Int) : Ct := ⟨8,[(.agg (zY c)),(LY b)],true,(dL 1 ab [] (ax c b))⟩
abbrev gm (c : Ci) (b : List Int) : Lp (Nat × Nat) := xD [2,5,6,7] 3 (fun (i : Nat) (p0 : Nat) => ⟨[(2,(.ptr 0 0 0 0)),(5,(.own 1)),(6,(.ptr 2 0 0 0)),(7,(i6 (i : Int)))],[(.var 29 (zY c)),(.arr 37 1 ab [] (tab (qW c b) i)),(.var 57 [(LY b),(i6 (p0 : Int))])]⟩) (fun (i : Nat) (p0 : Nat) => i ≤ c.chans.length∧p0 = inQ c b i∧p0 ≤ 10 * i) (fun (i : Nat) (p0 : Nat) => c.chans.length - i)
abbrev oe (c : Ci) (b : List Int) (i : Nat) (p0 : Nat) : Lp (Nat) := oS [2,5,6,7,8,9,10] 4 (fun (k : Nat) => ⟨[(2,(.ptr 0 0 0 0)),(5,(.own 1)),(6,(.ptr 2 0 0 0)),(7,(i6 (i : Int))),(8,(.own 3)),(9,(i6 (((b.getD p0 0 % 8).toNat : Nat) : Int))),(10,(i6 (k : Int)))],[(.var 29 (zY c)),(.arr 37 1 ab [] (tab (qW c b) i)),(.var 57 [(LY b),(i6 (p0 : Int))]),(.arr 3 1 (aa .i64) 0 (tab (mK b p0 (c.chans.getD i cb).w) k))]⟩) (fun (k : Nat) => k ≤ (b.getD p0 0 % 8).toNat∧(k = 0 ∨ (c.chans.getD i cb).frm < 0)) (fun (k : Nat) => (b.getD p0 0 % 8).toNat - k)
theorem sk (c : Ci) (b : List Int) (hc : a6 c) (hb : lL b) : CC (c8 c b) := by
 have hnl := hc.nl
 have hcl := hc.cl
 refine ai.vc (V := TT 2 (ao [] ((tab (qW c b) 0).map ab)∧TT 6 (GO (gm c b) (0,0) (∀ i p0,(gm c b).inv (i,p0) → TT 5 (CD ((i : Int) < (c.chans.length : Int)) (ao [] (([] : List Int).map (aa .i64))∧TT 2 (CC (Ew b p0)∧((8 : Int) ≠ 0∧(Int.tmod (b.getD p0 0) 8) = (((b.getD p0 0 % 8).toNat : Nat) : Int))∧TT 2 (GO (oe c b i p0) 0 (∀ k,(oe c b i p0).inv k → CS ((k : Int) < (((b.getD p0 0 % 8).toNat : Nat) : Int)) (TT 3 ((True∧(decide ((k : Int) < (((b.getD p0 0 % 8).toNat : Nat) : Int))) = true)∧TT 3 (IX (i : Int) c.chans.length∧TT 4 (CD (((c.chans.getD i cb).frm) < 0) (TT 3 (W6 ((1 + k : Nat) : Int)∧CC (zV b p0 (1 + k))∧CC (Ew b (p0 + (1 + k)))∧TT 3 (IX (i : Int) c.chans.length∧TT 2 (CC (Ma ((c.chans.getD i cb).w))∧(True∧(IntKind.wrap .i64 (BitVec.ofInt (IntKind.i64).bits (b.getD (p0 + (1 + k)) 0) &&& BitVec.ofInt (IntKind.i64).bits (an ((c.chans.getD i cb).w))).toNat) = (mK b p0 (c.chans.getD i cb).w k))∧ao [[(i6 (mK b p0 (c.chans.getD i cb).w k))]] ([mK b p0 (c.chans.getD i cb).w k].map (aa .i64))∧((tab (mK b p0 (c.chans.getD i cb).w) k).length + ([mK b p0 (c.chans.getD i cb).w k].map (aa .i64)).length ≤ 137438953472∧(tab (mK b p0 (c.chans.getD i cb).w) k).map (aa .i64) ++ [mK b p0 (c.chans.getD i cb).w k].map (aa .i64) = (tab (mK b p0 (c.chans.getD i cb).w) (k + 1)).map (aa .i64))∧TT 2 (W6 ((k + 1 : Nat) : Int)∧TT 1 (AG (oe c b i p0) k (k + 1))))))) (TT 3 (IX (i : Int) c.chans.length∧TT 3 (CD (((c.chans.getD i cb).frm) < 0) (TT 2 (W6 ((1 + ((b.getD p0 0 % 8).toNat) : Nat) : Int)∧CC (zV b p0 (1 + ((b.getD p0 0 % 8).toNat)))∧TT 3 (ao [[(LI (tab (mK b p0 (c.chans.getD i cb).w) k))]] ([tab (mK b p0 (c.chans.getD i cb).w) k].map ab)∧((tab (qW c b) i).length + ([tab (mK b p0 (c.chans.getD i cb).w) k].map ab).length ≤ 137438953472∧(tab (qW c b) i).map ab ++ [tab (mK b p0 (c.chans.getD i cb).w) k].map ab = (tab (qW c b) (i + 1)).map ab)∧TT 2 (W6 ((i + 1 : Nat) : Int)∧TT 1 (AG (gm c b) (i,p0) (i + 1,p0 + (1 + (b.getD p0 0 % 8).toNat))))))) (TT 2 (ao [[(LI (tab (mK b p0 (c.chans.getD i cb).w) k))]] ([tab (mK b p0 (c.chans.getD i cb).w) k].map ab)∧((tab (qW c b) i).length + ([tab (mK b p0 (c.chans.getD i cb).w) k].map ab).length ≤ 137438953472∧(tab (qW c b) i).map ab ++ [tab (mK b p0 (c.chans.getD i cb).w) k].map ab = (tab (qW c b) (i + 1)).map ab)∧TT 2 (W6 ((i + 1 : Nat) : Int)∧TT 1 (AG (gm c b) (i,p0) (i + 1,p0)))))))))))) (TT 3 ((True∧(decide ((k : Int) < (((b.getD p0 0 % 8).toNat : Nat) : Int))) = false)∧TT 11 (IX (i : Int) c.chans.length∧TT 3 (CD (((c.chans.getD i cb).frm) < 0) (TT 2 (W6 ((1 + ((b.getD p0 0 % 8).toNat) : Nat) : Int)∧CC (zV b p0 (1 + ((b.getD p0 0 % 8).toNat)))∧TT 3 (ao [[(LI (tab (mK b p0 (c.chans.getD i cb).w) k))]] ([tab (mK b p0 (c.chans.getD i cb).w) k].map ab)∧((tab (qW c b) i).length + ([tab (mK b p0 (c.chans.getD i cb).w) k].map ab).length ≤ 137438953472∧(tab (qW c b) i).map ab ++ [tab (mK b p0 (c.chans.getD i cb).w) k].map ab = (tab (qW c b) (i + 1)).map ab)∧TT 2 (W6 ((i + 1 : Nat) : Int)∧TT 1 (AG (gm c b) (i,p0) (i + 1,p0 + (1 + (b.getD p0 0 % 8).toNat))))))) (TT 2 (ao [[(LI (tab (mK b p0 (c.chans.getD i cb).w) k))]] ([tab (mK b p0 (c.chans.getD i cb).w) k].map ab)∧((tab (qW c b) i).length + ([tab (mK b p0 (c.chans.getD i cb).w) k].map ab).length ≤ 137438953472∧(tab (qW c b) i).map ab ++ [tab (mK b p0 (c.chans.getD i cb).w) k].map ab = (tab (qW c b) (i + 1)).map ab)∧TT 2 (W6 ((i + 1 : Nat) : Int)∧TT 1 (AG (gm c b) (i,p0) (i + 1,p0))))))))))))) (TT 3 ((tab (qW c b) i).map ab = (ax c b).map ab))))))) (.w 1 [(0,.box 37 1 ab [] (tab (qW c b) 0))] <| .l (gm c b) (0,0) (fun ⟨i,p0⟩ => .b 18 (.w 6 [(0,.box 3 1 (aa .i64) 0 ([] : List Int))] <| .w 7 [(1,(Ew b p0).O),(2,.val (i6 (((b.getD p0 0 % 8).toNat : Nat) : Int)))] <| .l (oe c b i p0) 0 (fun k => .s 9 ((k : Int) < (((b.getD p0 0 % 8).toNat : Nat) : Int)) (.w 9 [(3,.val (dB true))] <| .b 36 (.w 11 [(3,.val (i6 ((1 + k : Nat) : Int))),(4,(zV b p0 (1 + k)).O),(5,(Ew b (p0 + (1 + k))).O),(12,(Ma ((c.chans.getD i cb).w)).O),(13,.val (i6 (mK b p0 (c.chans.getD i cb).w k))),(14,.box 3 1 (aa .i64) 0 [mK b p0 (c.chans.getD i cb).w k]),(15,.box 3 1 (aa .i64) 0 (tab (mK b p0 (c.chans.getD i cb).w) (k + 1)))] <| .w 10 [(1,.val (i6 ((k + 1 : Nat) : Int)))] <| .e) (.b 61 (.w 13 [(2,.val (i6 ((1 + ((b.getD p0 0 % 8).toNat) : Nat) : Int))),(3,(zV b p0 (1 + ((b.getD p0 0 % 8).toNat))).O)] <| .f 14 3 <| .w 14 [(2,.box 37 1 ab [] [tab (mK b p0 (c.chans.getD i cb).w) k]),(3,.box 37 1 ab [] (tab (qW c b) (i + 1)))] <| .w 5 [(1,.val (sS i))] <| .e) (.f 14 3 <| .w 14 [(2,.box 37 1 ab [] [tab (mK b p0 (c.chans.getD i cb).w) k]),(3,.box 37 1 ab [] (tab (qW c b) (i + 1)))] <| .w 5 [(1,.val (sS i))] <| .e))) (.w 9 [(3,.val (dB false))] <| .b 61 (.w 13 [(2,.val (i6 ((1 + ((b.getD p0 0 % 8).toNat) : Nat) : Int))),(3,(zV b p0 (1 + ((b.getD p0 0 % 8).toNat))).O)] <| .f 14 3 <| .w 14 [(2,.box 37 1 ab [] [tab (mK b p0 (c.chans.getD i cb).w) k]),(3,.box 37 1 ab [] (tab (qW c b) (i + 1)))] <| .w 5 [(1,.val (sS i))] <| .e) (.f 14 3 <| .w 14 [(2,.box 37 1 ab [] [tab (mK b p0 (c.chans.getD i cb).w) k]),(3,.box 37 1 ab [] (tab (qW c b) (i + 1)))] <| .w 5 [(1,.val (sS i))] <| .e)))) (.e))) Try.func8 rfl rfl rfl (by kernel_rfl) ?_
 refine tt ⟨oK,tt ⟨rfl,⟨by omega,rfl,by omega⟩,?_⟩⟩
 intro i p0 hinv
 obtain ⟨hi,hp0,hpb⟩ := hinv
 have hy := eh hb p0
 refine tt (cd (fun hc18 => ?_) (fun hc18 => ?_))
 · refine ⟨oK,tt ⟨(oc b p0 hb),⟨⟨om,(by rw [show (((b.getD p0 0 % 8).toNat : Nat) : Int) = b.getD p0 0 % 8 from Int.toNat_of_nonneg (by omega)]; exact Int.tmod_eq_emod_of_nonneg hy.1)⟩,tt ⟨rfl,⟨by omega,.inl rfl⟩,?_⟩⟩⟩⟩
   intro k hinv
   obtain ⟨hk,hkf⟩ := hinv
   refine ⟨fun hs0 => ?_,fun hs0 => ?_⟩
   · refine tt ⟨(vT hs0),tt ⟨ix,tt (cd (fun hc36 => ?_) (fun hc36 => ?_))⟩⟩
     · have hw : 1 ≤ (c.chans.getD i cb).w∧(c.chans.getD i cb).w ≤ 8 := bo.1 (hc.cw i (by omega))
       have hyk := eh hb (p0 + (1 + k))
       refine tt ⟨w6,⟨(sR b p0 (1 + k) om),⟨(oc b (p0 + (1 + k)) hb),tt ⟨ix,tt ⟨(zU ((c.chans.getD i cb).w)),⟨⟨oK,(wP (by omega) (by omega))⟩,⟨⟨⟨rfl,oK⟩,oK⟩,⟨(bu (by omega) rfl),tt ⟨w6,tt ⟨(k + 1),rfl,?_,(?_ : (b.getD p0 0 % 8).toNat - (k + 1) < (b.getD p0 0 % 8).toNat - k)⟩⟩⟩⟩⟩⟩⟩⟩⟩⟩
       · exact ⟨by omega,.inr (by first | assumption | omega)⟩
       · omega
     · have hkn : k = Jv c b p0 i := by unfold Jv; split <;> rename_i hfr <;> (have hfr : _ := hfr; unfold eO at hfr; omega)
       refine tt ⟨ix,tt (cd (fun hc61 => ?_) (fun hc61 => ?_))⟩
       · refine tt ⟨w6,⟨(sR b p0 (1 + ((b.getD p0 0 % 8).toNat)) om),tt ⟨⟨⟨rfl,oK⟩,oK⟩,⟨(bu (by omega) (by rw [hkn,hp0]; rfl)),tt ⟨w6,tt ⟨(i + 1,p0 + (1 + (b.getD p0 0 % 8).toNat)),rfl,?_,(?_ : c.chans.length - (i + 1) < c.chans.length - i)⟩⟩⟩⟩⟩⟩
         · exact ⟨by omega,by rw [inQ,if_pos hc61,← hp0],by omega⟩
         · omega
       · refine tt ⟨⟨⟨rfl,oK⟩,oK⟩,⟨(bu (by omega) (by rw [hkn,hp0]; rfl)),tt ⟨w6,tt ⟨(i + 1,p0),rfl,?_,(?_ : c.chans.length - (i + 1) < c.chans.length - i)⟩⟩⟩⟩
         · exact ⟨by omega,by rw [inQ,if_neg hc61]; exact hp0,by omega⟩
         · omega
   · refine tt ⟨(vF hs0),?_⟩
     have hkn : k = Jv c b p0 i := by unfold Jv; split <;> rename_i hfr <;> (have hfr : _ := hfr; unfold eO at hfr; omega)
     refine tt ⟨ix,tt (cd (fun hc61 => ?_) (fun hc61 => ?_))⟩
     · refine tt ⟨w6,⟨(sR b p0 (1 + ((b.getD p0 0 % 8).toNat)) om),tt ⟨⟨⟨rfl,oK⟩,oK⟩,⟨(bu (by omega) (by rw [hkn,hp0]; rfl)),tt ⟨w6,tt ⟨(i + 1,p0 + (1 + (b.getD p0 0 % 8).toNat)),rfl,?_,(?_ : c.chans.length - (i + 1) < c.chans.length - i)⟩⟩⟩⟩⟩⟩
       · exact ⟨by omega,by rw [inQ,if_pos hc61,← hp0],by omega⟩
       · omega
     · refine tt ⟨⟨⟨rfl,oK⟩,oK⟩,⟨(bu (by omega) (by rw [hkn,hp0]; rfl)),tt ⟨w6,tt ⟨(i + 1,p0),rfl,?_,(?_ : c.chans.length - (i + 1) < c.chans.length - i)⟩⟩⟩⟩
       · exact ⟨by omega,by rw [inQ,if_neg hc61]; exact hp0,by omega⟩
       · omega
 · refine tt (congrArg _ (?_ : (tab (qW c b) i) = (ax c b)))
   rw [show i = c.chans.length by omega]; rfl
abbrev c9 (b : List Int) : Ct := ⟨9,[(LY b)],true,(dL 1 cB .empty (a7 b))⟩
abbrev og (b : List Int) : Lp (Nat) := oS [0,3,4] 1 (fun (i : Nat) => ⟨[(0,(LY b)),(3,(.own 0)),(4,(i6 (i : Int)))],[(.arr 9 1 cB .empty (tab (s8 b) i))]⟩) (fun (i : Nat) => i ≤ b.length∧i ≤ 40) (fun (i : Nat) => b.length - i)
theorem sn (b : List Int) (hb : lL b) : CC (c9 b) := by
 refine ai.vc (V := TT 1 (ao [] ((tab (s8 b) 0).map cB)∧TT 2 (GO (og b) 0 (∀ i,(og b).inv i → CS ((i : Int) < (b.length : Int)) (TT 4 ((True∧(decide ((i : Int) < (b.length : Int))) = true)∧TT 3 (CD ((i : Int) < 40) (TT 1 (ao [[(dS (bs [97]))],[(dS (bs [98]))],[(dS (bs [97]))],[(dS (bs [98]))],[(dS (bs [97]))],[(dS (bs [98]))],[(dS (bs [99]))]] ([(bs [97]),(bs [98]),(bs [97]),(bs [98]),(bs [97]),(bs [98]),(bs [99])].map cB)∧TT 2 (IX (i : Int) b.length∧TT 1 (QM (b.getD i 0) 7∧IX ((b.getD i 0) % 7) ([(bs [97]),(bs [98]),(bs [97]),(bs [98]),(bs [97]),(bs [98]),(bs [99])].length)∧(((b.getD i 0) % 7).toNat < [(bs [97]),(bs [98]),(bs [97]),(bs [98]),(bs [97]),(bs [98]),(bs [99])].length∧True)∧ao [[(dS (([(bs [97]),(bs [98]),(bs [97]),(bs [98]),(bs [97]),(bs [98]),(bs [99])]).getD (((b.getD i 0) % 7).toNat) .empty))]] ([(([(bs [97]),(bs [98]),(bs [97]),(bs [98]),(bs [97]),(bs [98]),(bs [99])]).getD (((b.getD i 0) % 7).toNat) .empty)].map cB)∧((tab (s8 b) i).length + ([(([(bs [97]),(bs [98]),(bs [97]),(bs [98]),(bs [97]),(bs [98]),(bs [99])]).getD (((b.getD i 0) % 7).toNat) .empty)].map cB).length ≤ 137438953472∧(tab (s8 b) i).map cB ++ [(([(bs [97]),(bs [98]),(bs [97]),(bs [98]),(bs [97]),(bs [98]),(bs [99])]).getD (((b.getD i 0) % 7).toNat) .empty)].map cB = (tab (s8 b) (i + 1)).map cB)∧TT 2 (W6 ((i + 1 : Nat) : Int)∧TT 1 (AG (og b) i (i + 1))))))) (TT 3 ((tab (s8 b) i).map cB = (a7 b).map cB))))) (TT 4 ((True∧(decide ((i : Int) < (b.length : Int))) = false)∧TT 6 ((tab (s8 b) i).map cB = (a7 b).map cB))))))) (.w 1 [(0,.box 9 1 cB .empty (tab (s8 b) 0))] <| .l (og b) 0 (fun i => .s 3 ((i : Int) < (b.length : Int)) (.w 3 [(4,.val (dB true))] <| .b 13 (.w 5 [(1,.box 9 1 cB .empty [(bs [97]),(bs [98]),(bs [97]),(bs [98]),(bs [97]),(bs [98]),(bs [99])]),(6,.val (dI .u8 ((b.getD i 0) % 7))),(9,.box 9 1 cB .empty [(([(bs [97]),(bs [98]),(bs [97]),(bs [98]),(bs [97]),(bs [98]),(bs [99])]).getD (((b.getD i 0) % 7).toNat) .empty)]),(10,.box 9 1 cB .empty (tab (s8 b) (i + 1)))] <| .w 4 [(1,.val (sS i))] <| .e) (.e)) (.w 3 [(4,.val (dB false))] <| .e))) Try.func9 rfl rfl rfl (by kernel_rfl) ?_
 refine tt ⟨oK,tt ⟨rfl,(by omega),?_⟩⟩
 intro i hinv
 obtain ⟨hi,hi2⟩ := hinv
 refine ⟨fun hs0 => ?_,fun hs0 => ?_⟩
 · refine tt ⟨(vT hs0),tt (cd (fun hc13 => ?_) (fun hc13 => ?_))⟩
   · have hy := eh hb i
     refine tt ⟨⟨⟨rfl,oK⟩,⟨rfl,oK⟩,⟨rfl,oK⟩,⟨rfl,oK⟩,⟨rfl,oK⟩,⟨rfl,oK⟩,⟨rfl,oK⟩,oK⟩,tt ⟨ix,tt ⟨qm,⟨ix,⟨⟨om,oK⟩,⟨⟨⟨rfl,oK⟩,oK⟩,⟨(bu (by omega) rfl),tt ⟨w6,tt ⟨(i + 1),rfl,(?_ : (i + 1) ≤ b.length∧(i + 1) ≤ 40),(?_ : b.length - (i + 1) < b.length - i)⟩⟩⟩⟩⟩⟩⟩⟩⟩
     · omega
     · omega
   · refine tt (congrArg _ (?_ : (tab (s8 b) i) = (a7 b)))
     rw [show i = Eu b by unfold Eu; omega]; rfl
 · refine tt ⟨(vF hs0),tt (congrArg _ (?_ : (tab (s8 b) i) = (a7 b)))⟩
   rw [show i = Eu b by unfold Eu; omega]; rfl
abbrev vJ (c : Ci) (inp : List (List Int)) (n : Int) (cls : List ByteArray) : Ct := ⟨11,[(.agg (zY c)),(.agg [(dL 1 ab [] inp),(i6 n),(dL 1 cB .empty cls)])],true,(.agg [(dL 1 ab [] ((bK c inp n).l)),(LI ((bK c inp n).c)),(i6 ((bK c inp n).e))])⟩
theorem lu (c : Ci) (inp : List (List Int)) (n : Int) (cls : List ByteArray) (hc : a6 c) (hq : IH c) (hl : inp.length ≤ 100000) (hs : ∀ z ∈ inp,z.length ≤ 100000) : CC (vJ c inp n cls) := by
 refine ai.vc (V := TT 8 (CC (Nv c inp n)∧TT 13 (((eR c inp n).1).map ab = ((bK c inp n).l).map ab∧((eR c inp n).2.1).map (aa .i64) = ((bK c inp n).c).map (aa .i64)∧((eR c inp n).2.2) = ((bK c inp n).e)∧True))) (.w 1 [(5,(Nv c inp n).O)] <| .e) Try.func11 rfl rfl rfl (by kernel_rfl) ?_
 refine tt ⟨(zS c inp n hc hq hl hs),tt ⟨(congrArg _ (?_ : ((eR c inp n).1) = ((bK c inp n).l))),(congrArg _ (?_ : ((eR c inp n).2.1) = ((bK c inp n).c))),?_,oK⟩⟩
 all_goals (rfl)
abbrev IZ (c : Ci) (inp : List (List Int)) (n : Int) (cls : List ByteArray) : Ct := ⟨10,[(.agg (zY c)),(.agg [(dL 1 ab [] inp),(i6 n),(dL 1 cB .empty cls)])],true,(.agg [(dL 1 ab [] ((bO c inp cls).l)),(LI ((bO c inp cls).c)),(i6 ((bO c inp cls).e))])⟩
theorem tU (c : Ci) (inp : List (List Int)) (n : Int) (cls : List ByteArray) (hc : a6 c) (hq : IH c) (hl : inp.length ≤ 100000) (hs : ∀ z ∈ inp,z.length ≤ 100000) (hcl : cls.length ≤ 9223372036854775807) : CC (IZ c inp n cls) := by
 refine ai.vc (V := TT 8 (CC (Nu c inp cls)∧TT 13 (((gT c inp cls).1).map ab = ((bO c inp cls).l).map ab∧((gT c inp cls).2.1).map (aa .i64) = ((bO c inp cls).c).map (aa .i64)∧((gT c inp cls).2.2) = ((bO c inp cls).e)∧True))) (.w 1 [(5,(Nu c inp cls).O)] <| .e) Try.func10 rfl rfl rfl (by kernel_rfl) ?_
 refine tt ⟨(Et c inp cls hc hq hl hs hcl),tt ⟨(congrArg _ (?_ : ((gT c inp cls).1) = ((bO c inp cls).l))),(congrArg _ (?_ : ((gT c inp cls).2.1) = ((bO c inp cls).c))),?_,oK⟩⟩
 all_goals (rfl)
abbrev Mf (a b : List (List Int)) : Ct := ⟨16,[(dL 1 ab [] a),(dL 1 ab [] b)],false,(.agg [(i6 (((L5 a b) : Nat) : Int)),(i6 (((L6 a b) : Nat) : Int)),(dB ((du a b).2.2))])⟩
theorem Dr (a b : List (List Int)) (ha : a.length ≤ 9223372036854775807) (hsa : ∀ i,(a.getD i []).length ≤ 9223372036854775807) : CC (Mf a b) := by
 refine ai.vc (V := TT 3 (CC (Np a b)∧TT 13 (((((du a b).1) = (((L5 a b) : Nat) : Int)∧((du a b).2.1) = (((L6 a b) : Nat) : Int)∧((du a b).2.2) = ((du a b).2.2)∧True))∧((True∧True∧True∧True))))) (.w 1 [(2,(Np a b).O)] <| .e) Try.func16 rfl rfl rfl (by kernel_rfl) ?_
 refine tt ⟨(GM a b ha hsa),tt ⟨⟨?_,?_,rfl,oK⟩,⟨oK,oK,oK,oK⟩⟩⟩
 · exact (zT a b).1
 · exact (zT a b).2
abbrev KR (a b : List Int) : Ct := ⟨13,[(LI a),(LI b)],false,(dB (mV a b))⟩
abbrev tV (a : List Int) (b : List Int) : Lp (Nat) := oS [0,1,5] 0 (fun (i : Nat) => ⟨[(0,(LI a)),(1,(LI b)),(5,(i6 (i : Int)))],[]⟩) (fun (i : Nat) => i ≤ a.length∧∀ q,q < i → decide (a.getD q 0 ≤ b.getD q 0) = true) (fun (i : Nat) => a.length - i)
theorem yz (a b : List Int) (ha : a.length ≤ 9223372036854775807) : CC (KR a b) := by
 refine ai.vc (V := TT 6 (CN ((a.length : Int) = (b.length : Int)) (TT 2 (false = (mV a b)∧True)) (TT 1 (GO (tV a b) 0 (∀ i,(tV a b).inv i → TT 4 (CD ((i : Int) < (a.length : Int)) (TT 2 (IX (i : Int) a.length∧TT 3 (IX (i : Int) b.length∧TT 2 (CD ((a.getD i 0) > (b.getD i 0)) (TT 2 (false = (mV a b)∧True)) (TT 1 (W6 ((i + 1 : Nat) : Int)∧TT 1 (AG (tV a b) i (i + 1)))))))) (TT 2 (true = (mV a b)∧True)))))))) (.b 10 (.e) (.l (tV a b) 0 (fun i => .b 14 (.b 25 (.e) (.w 5 [(1,.val (sS i))] <| .e)) (.e)))) Try.func13 rfl rfl rfl (by kernel_rfl) ?_
 refine tt (cn (fun hc10 => ?_) (fun hc10 => ?_))
 · refine tt ⟨?_,oK⟩
   first | exact (yr (by omega)).symm | exact (yu (i := i) (by omega) (by omega)).symm | exact (tN (by omega) (fun q hq => h3 q (by omega))).symm
 · refine tt ⟨rfl,⟨by omega,fun q hq => by omega⟩,?_⟩
   intro i hinv
   obtain ⟨hi,h3⟩ := hinv
   refine tt (cd (fun hc14 => ?_) (fun hc14 => ?_))
   · refine tt ⟨ix,tt ⟨ix,tt (cd (fun hc25 => ?_) (fun hc25 => ?_))⟩⟩
     · refine tt ⟨?_,oK⟩
       first | exact (yr (by omega)).symm | exact (yu (i := i) (by omega) (by omega)).symm | exact (tN (by omega) (fun q hq => h3 q (by omega))).symm
     · refine tt ⟨w6,tt ⟨(i + 1),rfl,?_,(?_ : a.length - (i + 1) < a.length - i)⟩⟩
       · exact ⟨by omega,eJ h3 (decide_eq_true (by omega))⟩
       · omega
   · refine tt ⟨?_,oK⟩
     first | exact (yr (by omega)).symm | exact (yu (i := i) (by omega) (by omega)).symm | exact (tN (by omega) (fun q hq => h3 q (by omega))).symm
abbrev NH : Ct := ⟨17,[],true,zX⟩
theorem I0  : CC NH := by
 refine ai.vc (V := TT 8 (ao [[(i6 16),(dS e0),(i6 0),(dS e0),(i6 0),(dS e0),.nils],[(i6 18),(dS e0),(i6 0),(dS e0),(i6 0),(dS e0),.nils]] ([(⟨16,e0,⟨0,e0⟩,⟨0,e0⟩,[]⟩ : Ex),(⟨18,e0,⟨0,e0⟩,⟨0,e0⟩,[]⟩ : Ex)].map (eA 2))∧TT 5 (ao [[(dS (bs [114])),(i6 2),(i6 0),(i6 6),(dS e0),(i6 0),(dS e0),(i6 0),(dS e0),(dL 7 (eA 2) dE [(⟨16,e0,⟨0,e0⟩,⟨0,e0⟩,[]⟩ : Ex),(⟨18,e0,⟨0,e0⟩,⟨0,e0⟩,[]⟩ : Ex)]),(i6 0),(dS e0),(i6 0)]] ([(⟨(bs [114]),2,0,⟨6,e0,⟨0,e0⟩,⟨0,e0⟩,[(⟨16,e0,⟨0,e0⟩,⟨0,e0⟩,[]⟩ : Ex),(⟨18,e0,⟨0,e0⟩,⟨0,e0⟩,[]⟩ : Ex)]⟩,⟨0,e0,0⟩⟩ : Rg)].map km)∧TT 2 (ao [[(i6 0),(i6 2),(i6 1),(dS e0),(i6 1),(dS e0),(i6 1),(dS e0),.nils]] ([(⟨0,2,⟨1,e0,⟨1,e0⟩,⟨1,e0⟩,[]⟩⟩ : Tk)].map lJ)∧TT 3 (ao [[(i6 1),(i6 2),(i6 1),(dS e0),(i6 1),(dS e0),(i6 1),(dS e0),.nils,(i6 6),(dS e0),(i6 0),(dS e0),(i6 0),(dS e0),(dL 7 (eA 2) dE [(⟨16,e0,⟨0,e0⟩,⟨0,e0⟩,[]⟩ : Ex),(⟨18,e0,⟨0,e0⟩,⟨0,e0⟩,[]⟩ : Ex)])]] ([(⟨1,2,⟨1,e0,⟨1,e0⟩,⟨1,e0⟩,[]⟩,⟨6,e0,⟨0,e0⟩,⟨0,e0⟩,[(⟨16,e0,⟨0,e0⟩,⟨0,e0⟩,[]⟩ : Ex),(⟨18,e0,⟨0,e0⟩,⟨0,e0⟩,[]⟩ : Ex)]⟩⟩ : Pt)].map ou)∧TT 4 (ao [[(dS (bs [112])),(dS (bs [97])),(dL 13 km cr [(⟨(bs [114]),2,0,⟨6,e0,⟨0,e0⟩,⟨0,e0⟩,[(⟨16,e0,⟨0,e0⟩,⟨0,e0⟩,[]⟩ : Ex),(⟨18,e0,⟨0,e0⟩,⟨0,e0⟩,[]⟩ : Ex)]⟩,⟨0,e0,0⟩⟩ : Rg)]),.nils,(dL 9 lJ aR [(⟨0,2,⟨1,e0,⟨1,e0⟩,⟨1,e0⟩,[]⟩⟩ : Tk)]),(dL 16 ou aN [(⟨1,2,⟨1,e0,⟨1,e0⟩,⟨1,e0⟩,[]⟩,⟨6,e0,⟨0,e0⟩,⟨0,e0⟩,[(⟨16,e0,⟨0,e0⟩,⟨0,e0⟩,[]⟩ : Ex),(⟨18,e0,⟨0,e0⟩,⟨0,e0⟩,[]⟩ : Ex)]⟩⟩ : Pt)])]] ([(⟨(bs [112]),(bs [97]),[(⟨(bs [114]),2,0,⟨6,e0,⟨0,e0⟩,⟨0,e0⟩,[(⟨16,e0,⟨0,e0⟩,⟨0,e0⟩,[]⟩ : Ex),(⟨18,e0,⟨0,e0⟩,⟨0,e0⟩,[]⟩ : Ex)]⟩,⟨0,e0,0⟩⟩ : Rg)],[],[(⟨0,2,⟨1,e0,⟨1,e0⟩,⟨1,e0⟩,[]⟩⟩ : Tk)],[(⟨1,2,⟨1,e0,⟨1,e0⟩,⟨1,e0⟩,[]⟩,⟨6,e0,⟨0,e0⟩,⟨0,e0⟩,[(⟨16,e0,⟨0,e0⟩,⟨0,e0⟩,[]⟩ : Ex),(⟨18,e0,⟨0,e0⟩,⟨0,e0⟩,[]⟩ : Ex)]⟩⟩ : Pt)]⟩ : Pr)].map iB)∧TT 2 (ao [[(dS (bs [105])),(i6 2),(i6 0),(i6 (-1)),(i6 0)],[(dS (bs [111])),(i6 2),(i6 0),(i6 0),(i6 (-1))]] ([(⟨(bs [105]),2,0,(-1),0⟩ : Ch),(⟨(bs [111]),2,0,0,(-1)⟩ : Ch)].map gM)∧TT 3 ([(⟨(bs [112]),(bs [97]),[(⟨(bs [114]),2,0,⟨6,e0,⟨0,e0⟩,⟨0,e0⟩,[(⟨16,e0,⟨0,e0⟩,⟨0,e0⟩,[]⟩ : Ex),(⟨18,e0,⟨0,e0⟩,⟨0,e0⟩,[]⟩ : Ex)]⟩,⟨0,e0,0⟩⟩ : Rg)],[],[(⟨0,2,⟨1,e0,⟨1,e0⟩,⟨1,e0⟩,[]⟩⟩ : Tk)],[(⟨1,2,⟨1,e0,⟨1,e0⟩,⟨1,e0⟩,[]⟩,⟨6,e0,⟨0,e0⟩,⟨0,e0⟩,[(⟨16,e0,⟨0,e0⟩,⟨0,e0⟩,[]⟩ : Ex),(⟨18,e0,⟨0,e0⟩,⟨0,e0⟩,[]⟩ : Ex)]⟩⟩ : Pt)]⟩ : Pr)].map iB = aH.procs.map iB∧[(⟨(bs [105]),2,0,(-1),0⟩ : Ch),(⟨(bs [111]),2,0,0,(-1)⟩ : Ch)].map gM = aH.chans.map gM∧True)))))))) (.w 2 [(2,.frz 85 7 (eA 2) dE [(⟨16,e0,⟨0,e0⟩,⟨0,e0⟩,[]⟩ : Ex),(⟨18,e0,⟨0,e0⟩,⟨0,e0⟩,[]⟩ : Ex)])] <| .w 3 [(2,.frz 89 13 km cr [(⟨(bs [114]),2,0,⟨6,e0,⟨0,e0⟩,⟨0,e0⟩,[(⟨16,e0,⟨0,e0⟩,⟨0,e0⟩,[]⟩ : Ex),(⟨18,e0,⟨0,e0⟩,⟨0,e0⟩,[]⟩ : Ex)]⟩,⟨0,e0,0⟩⟩ : Rg)]),(5,.frz 91 9 lJ aR [(⟨0,2,⟨1,e0,⟨1,e0⟩,⟨1,e0⟩,[]⟩⟩ : Tk)]),(9,.frz 93 16 ou aN [(⟨1,2,⟨1,e0,⟨1,e0⟩,⟨1,e0⟩,[]⟩,⟨6,e0,⟨0,e0⟩,⟨0,e0⟩,[(⟨16,e0,⟨0,e0⟩,⟨0,e0⟩,[]⟩ : Ex),(⟨18,e0,⟨0,e0⟩,⟨0,e0⟩,[]⟩ : Ex)]⟩⟩ : Pt)])] <| .w 4 [(1,.frz 63 6 iB ac [(⟨(bs [112]),(bs [97]),[(⟨(bs [114]),2,0,⟨6,e0,⟨0,e0⟩,⟨0,e0⟩,[(⟨16,e0,⟨0,e0⟩,⟨0,e0⟩,[]⟩ : Ex),(⟨18,e0,⟨0,e0⟩,⟨0,e0⟩,[]⟩ : Ex)]⟩,⟨0,e0,0⟩⟩ : Rg)],[],[(⟨0,2,⟨1,e0,⟨1,e0⟩,⟨1,e0⟩,[]⟩⟩ : Tk)],[(⟨1,2,⟨1,e0,⟨1,e0⟩,⟨1,e0⟩,[]⟩,⟨6,e0,⟨0,e0⟩,⟨0,e0⟩,[(⟨16,e0,⟨0,e0⟩,⟨0,e0⟩,[]⟩ : Ex),(⟨18,e0,⟨0,e0⟩,⟨0,e0⟩,[]⟩ : Ex)]⟩⟩ : Pt)]⟩ : Pr)]),(4,.frz 70 5 gM cb [(⟨(bs [105]),2,0,(-1),0⟩ : Ch),(⟨(bs [111]),2,0,0,(-1)⟩ : Ch)])] <| .e) Try.func17 rfl rfl rfl (by kernel_rfl) ?_
 refine tt ⟨⟨⟨rfl,rfl,rfl,rfl,rfl,rfl,rfl,oK⟩,⟨rfl,rfl,rfl,rfl,rfl,rfl,rfl,oK⟩,oK⟩,tt ⟨⟨⟨rfl,rfl,rfl,rfl,rfl,rfl,rfl,rfl,rfl,rfl,rfl,rfl,rfl,oK⟩,oK⟩,tt ⟨⟨⟨rfl,rfl,rfl,rfl,rfl,rfl,rfl,rfl,rfl,oK⟩,oK⟩,tt ⟨⟨⟨rfl,rfl,rfl,rfl,rfl,rfl,rfl,rfl,rfl,rfl,rfl,rfl,rfl,rfl,rfl,rfl,oK⟩,oK⟩,tt ⟨⟨⟨rfl,rfl,rfl,rfl,rfl,rfl,oK⟩,oK⟩,tt ⟨⟨⟨rfl,rfl,rfl,rfl,rfl,oK⟩,⟨rfl,rfl,rfl,rfl,rfl,oK⟩,oK⟩,tt ⟨(congrArg _ (?_ : [(⟨(bs [112]),(bs [97]),[(⟨(bs [114]),2,0,⟨6,e0,⟨0,e0⟩,⟨0,e0⟩,[(⟨16,e0,⟨0,e0⟩,⟨0,e0⟩,[]⟩ : Ex),(⟨18,e0,⟨0,e0⟩,⟨0,e0⟩,[]⟩ : Ex)]⟩,⟨0,e0,0⟩⟩ : Rg)],[],[(⟨0,2,⟨1,e0,⟨1,e0⟩,⟨1,e0⟩,[]⟩⟩ : Tk)],[(⟨1,2,⟨1,e0,⟨1,e0⟩,⟨1,e0⟩,[]⟩,⟨6,e0,⟨0,e0⟩,⟨0,e0⟩,[(⟨16,e0,⟨0,e0⟩,⟨0,e0⟩,[]⟩ : Ex),(⟨18,e0,⟨0,e0⟩,⟨0,e0⟩,[]⟩ : Ex)]⟩⟩ : Pt)]⟩ : Pr)] = aH.procs)),(congrArg _ (?_ : [(⟨(bs [105]),2,0,(-1),0⟩ : Ch),(⟨(bs [111]),2,0,0,(-1)⟩ : Ch)] = aH.chans)),oK⟩⟩⟩⟩⟩⟩⟩
 all_goals (rfl)
theorem Mg : oD (bK aH [[1,2,2],[]] 100) (⟨[[1,2,2],[1,3,1]],[3],0⟩ : Rs) = true := by unfold bK; rw [Nw]; decide
theorem Mh : oD (bK aH [[1,2,2],[]] 2) (⟨[[1,2,2],[1,3]],[2],0⟩ : Rs) = true := by unfold bK; rw [Nx]; decide
theorem Mi : oD (bO aH [[1,2,2],[]] [bs [97],bs [97]]) (⟨[[1,2,2],[1,3]],[2],0⟩ : Rs) = true := by unfold bO; rw [Ny]; decide
abbrev c6 : Ct := ⟨6,[],false,(dB true)⟩
theorem Hc  : CC c6 := by
 refine ai.vc (V := TT 1 (CC NH∧TT 2 (ao [[(i6 1)],[(i6 2)],[(i6 2)]] ([1,2,2].map (aa .i64))∧ao [[(LI [1,2,2])],[.nils]] ([[1,2,2],[]].map ab)∧TT 1 (ao [[(i6 1)],[(i6 2)],[(i6 2)]] ([1,2,2].map (aa .i64))∧ao [[(i6 1)],[(i6 3)],[(i6 1)]] ([1,3,1].map (aa .i64))∧ao [[(LI [1,2,2])],[(LI [1,3,1])]] ([[1,2,2],[1,3,1]].map ab)∧ao [[(i6 3)]] ([3].map (aa .i64))∧TT 3 (ao [[(i6 1)],[(i6 2)],[(i6 2)]] ([1,2,2].map (aa .i64))∧ao [[(i6 1)],[(i6 3)]] ([1,3].map (aa .i64))∧ao [[(LI [1,2,2])],[(LI [1,3])]] ([[1,2,2],[1,3]].map ab)∧ao [[(i6 2)]] ([2].map (aa .i64))∧TT 6 ((vu [] [zX,(.agg [(dL 1 ab [] [[1,2,2],[]]),(i6 100),.nils])] (vJ aH [[1,2,2],[]] 100 []).as∧CC (vJ aH [[1,2,2],[]] 100 []))∧TT 1 (CC (KQ (bK aH [[1,2,2],[]] 100) (⟨[[1,2,2],[1,3,1]],[3],0⟩ : Rs))∧TT 1 ((True∧(!(oD (bK aH [[1,2,2],[]] 100) (⟨[[1,2,2],[1,3,1]],[3],0⟩ : Rs))) = false)∧TT 3 ((vu [] [zX,(.agg [(dL 1 ab [] [[1,2,2],[]]),(i6 2),.nils])] (vJ aH [[1,2,2],[]] 2 []).as∧CC (vJ aH [[1,2,2],[]] 2 []))∧TT 1 (CC (KQ (bK aH [[1,2,2],[]] 2) (⟨[[1,2,2],[1,3]],[2],0⟩ : Rs))∧TT 2 ((True∧(!(oD (bK aH [[1,2,2],[]] 2) (⟨[[1,2,2],[1,3]],[2],0⟩ : Rs))) = false)∧TT 2 (ao [[(dS (bs [97]))],[(dS (bs [97]))]] ([(bs [97]),(bs [97])].map cB)∧TT 1 (CC (IZ aH [[1,2,2],[]] 0 [(bs [97]),(bs [97])])∧TT 1 (CC (KQ (bO aH [[1,2,2],[]] [(bs [97]),(bs [97])]) (⟨[[1,2,2],[1,3]],[2],0⟩ : Rs))∧TT 2 ((!(oD (bO aH [[1,2,2],[]] [(bs [97]),(bs [97])]) (⟨[[1,2,2],[1,3]],[2],0⟩ : Rs))) = false∧TT 1 (ao [[(i6 4)]] ([4].map (aa .i64))∧ao [[(LI [4])],[.nils]] ([[4],[]].map ab)∧TT 1 ((vu [] [zX,(.agg [(dL 1 ab [] [[4],[]]),(i6 1),.nils])] (vJ aH [[4],[]] 1 []).as∧CC (vJ aH [[4],[]] 1 []))∧TT 5 ((vu [] [zX,(.agg [(dL 1 ab [] [[1,2,2],[]]),(i6 101),.nils])] (vJ aH [[1,2,2],[]] 101 []).as∧CC (vJ aH [[1,2,2],[]] 101 []))∧TT 5 ((True∧(decide (((bK aH [[4],[]] 1).e) = 1)) = true)∧TT 4 ((True∧(decide (((bK aH [[1,2,2],[]] 101).e) = 1)) = true)∧TT 4 (CC (Eo [[1,2,2],[1,3]] [[1,2,2],[1,3,1]])∧TT 1 ((True∧(dm [[1,2,2],[1,3]] [[1,2,2],[1,3,1]]) = true)∧TT 4 (CC (Eo [[1,2,2],[1,3,1]] [[1,2,2],[1,3]])∧TT 2 ((True∧(!(dm [[1,2,2],[1,3,1]] [[1,2,2],[1,3]])) = true)∧TT 2 (ao [[(i6 1)],[(i6 3)],[(i6 2)]] ([1,3,2].map (aa .i64))∧ao [[.nils],[(LI [1,3,2])]] ([[],[1,3,2]].map ab)∧CC (Mf [[1,2,2],[1,3,1]] [[],[1,3,2]])∧TT 3 ((True∧(((((L5 [[1,2,2],[1,3,1]] [[],[1,3,2]]) : Nat) : Int) == 1) && (((((L6 [[1,2,2],[1,3,1]] [[],[1,3,2]]) : Nat) : Int) == 2) && (((du [[1,2,2],[1,3,1]] [[],[1,3,2]]).2.2) == true))) = true)∧TT 4 (CC (Mf [[1,2,2],[1,3,1]] [[1,2,2],[1,3]])∧TT 5 ((((((L5 [[1,2,2],[1,3,1]] [[1,2,2],[1,3]]) : Nat) : Int) == 0) && (((((L6 [[1,2,2],[1,3,1]] [[1,2,2],[1,3]]) : Nat) : Int) == 0) && (((du [[1,2,2],[1,3,1]] [[1,2,2],[1,3]]).2.2) == false))) = true∧True)))))))))))))))))))))))))))) (.w 1 [(0,NH.O)] <| .w 2 [(0,.frz 3 1 (aa .i64) 0 [1,2,2]),(1,.frz 37 1 ab [] [[1,2,2],[]])] <| .w 3 [(0,.frz 3 1 (aa .i64) 0 [1,2,2]),(1,.frz 3 1 (aa .i64) 0 [1,3,1]),(2,.frz 37 1 ab [] [[1,2,2],[1,3,1]]),(3,.frz 3 1 (aa .i64) 0 [3])] <| .w 4 [(0,.frz 3 1 (aa .i64) 0 [1,2,2]),(1,.frz 3 1 (aa .i64) 0 [1,3]),(2,.frz 37 1 ab [] [[1,2,2],[1,3]]),(3,.frz 3 1 (aa .i64) 0 [2])] <| .w 5 [(3,(vJ aH [[1,2,2],[]] 100 []).O'),(5,(KQ (bK aH [[1,2,2],[]] 100) (⟨[[1,2,2],[1,3,1]],[3],0⟩ : Rs)).O),(7,.val (dB false)),(11,(vJ aH [[1,2,2],[]] 2 []).O'),(13,(KQ (bK aH [[1,2,2],[]] 2) (⟨[[1,2,2],[1,3]],[2],0⟩ : Rs)).O),(16,.val (dB false)),(19,.box 9 1 cB .empty [(bs [97]),(bs [97])]),(21,(IZ aH [[1,2,2],[]] 0 [(bs [97]),(bs [97])]).O),(23,(KQ (bO aH [[1,2,2],[]] [(bs [97]),(bs [97])]) (⟨[[1,2,2],[1,3]],[2],0⟩ : Rs)).O)] <| .u 45 (.w 7 [(1,.frz 3 1 (aa .i64) 0 [4]),(2,.frz 37 1 ab [] [[4],[]]),(4,(vJ aH [[4],[]] 1 []).O')] <| .w 8 [(3,(vJ aH [[1,2,2],[]] 101 []).O')] <| .w 9 [(3,.val (dB true)),(8,.val (dB true)),(13,(Eo [[1,2,2],[1,3]] [[1,2,2],[1,3,1]]).O),(15,.val (dB true)),(20,(Eo [[1,2,2],[1,3,1]] [[1,2,2],[1,3]]).O),(23,.val (dB true)),(26,.frz 3 1 (aa .i64) 0 [1,3,2]),(27,.frz 37 1 ab [] [[],[1,3,2]]),(28,(Mf [[1,2,2],[1,3,1]] [[],[1,3,2]]).O),(32,.val (dB true)),(37,(Mf [[1,2,2],[1,3,1]] [[1,2,2],[1,3]]).O)] <| .e)) Try.func6 rfl rfl rfl (by kernel_rfl) ?_
 refine tt ⟨(I0),tt ⟨⟨⟨rfl,oK⟩,⟨rfl,oK⟩,⟨rfl,oK⟩,oK⟩,⟨⟨⟨rfl,oK⟩,⟨rfl,oK⟩,oK⟩,tt ⟨⟨⟨rfl,oK⟩,⟨rfl,oK⟩,⟨rfl,oK⟩,oK⟩,⟨⟨⟨rfl,oK⟩,⟨rfl,oK⟩,⟨rfl,oK⟩,oK⟩,⟨⟨⟨rfl,oK⟩,⟨rfl,oK⟩,oK⟩,⟨⟨⟨rfl,oK⟩,oK⟩,tt ⟨⟨⟨rfl,oK⟩,⟨rfl,oK⟩,⟨rfl,oK⟩,oK⟩,⟨⟨⟨rfl,oK⟩,⟨rfl,oK⟩,oK⟩,⟨⟨⟨rfl,oK⟩,⟨rfl,oK⟩,oK⟩,⟨⟨⟨rfl,oK⟩,oK⟩,tt ⟨⟨⟨⟨rfl,rfl,oK⟩,⟨rfl,rfl,rfl,oK⟩,oK⟩,(lu aH [[1,2,2],[]] 100 [] cy mW (by decide) (by decide))⟩,tt ⟨(yy (bK aH [[1,2,2],[]] 100) (⟨[[1,2,2],[1,3,1]],[3],0⟩ : Rs) (li cy).1 (li cy).2.1 (by decide) (pT (by decide)) (li cy).2.2),tt ⟨(mF Mg),tt ⟨⟨⟨⟨rfl,rfl,oK⟩,⟨rfl,rfl,rfl,oK⟩,oK⟩,(lu aH [[1,2,2],[]] 2 [] cy mW (by decide) (by decide))⟩,tt ⟨(yy (bK aH [[1,2,2],[]] 2) (⟨[[1,2,2],[1,3]],[2],0⟩ : Rs) (li cy).1 (li cy).2.1 (by decide) (pT (by decide)) (li cy).2.2),tt ⟨(mF Mh),tt ⟨⟨⟨rfl,oK⟩,⟨rfl,oK⟩,oK⟩,tt ⟨(tU aH [[1,2,2],[]] 0 [(bs [97]),(bs [97])] cy mW (by decide) (by decide) (by decide)),tt ⟨(yy (bO aH [[1,2,2],[]] [(bs [97]),(bs [97])]) (⟨[[1,2,2],[1,3]],[2],0⟩ : Rs) (lj cy).1 (lj cy).2.1 (by decide) (pT (by decide)) (lj cy).2.2),tt ⟨(My Mi),tt ⟨⟨⟨rfl,oK⟩,oK⟩,⟨⟨⟨rfl,oK⟩,⟨rfl,oK⟩,oK⟩,tt ⟨⟨⟨⟨rfl,rfl,oK⟩,⟨rfl,rfl,rfl,oK⟩,oK⟩,(lu aH [[4],[]] 1 [] cy mW (by decide) (by decide))⟩,tt ⟨⟨⟨⟨rfl,rfl,oK⟩,⟨rfl,rfl,rfl,oK⟩,oK⟩,(lu aH [[1,2,2],[]] 101 [] cy mW (by decide) (by decide))⟩,tt ⟨(vT Nz),tt ⟨(vT NA),tt ⟨(nY [[1,2,2],[1,3]] [[1,2,2],[1,3,1]] (by decide) (pT (by decide))),tt ⟨(bT (by decide)),tt ⟨(nY [[1,2,2],[1,3,1]] [[1,2,2],[1,3]] (by decide) (pT (by decide))),tt ⟨(mT (by decide)),tt ⟨⟨⟨rfl,oK⟩,⟨rfl,oK⟩,⟨rfl,oK⟩,oK⟩,⟨⟨⟨rfl,oK⟩,⟨rfl,oK⟩,oK⟩,⟨(Dr [[1,2,2],[1,3,1]] [[],[1,3,2]] (by decide) (pT (by decide))),tt ⟨(bT (by decide)),tt ⟨(Dr [[1,2,2],[1,3,1]] [[1,2,2],[1,3]] (by decide) (pT (by decide))),tt ⟨?_,oK⟩⟩⟩⟩⟩⟩⟩⟩⟩⟩⟩⟩⟩⟩⟩⟩⟩⟩⟩⟩⟩⟩⟩⟩⟩⟩⟩⟩⟩⟩⟩⟩⟩⟩⟩⟩⟩
 decide
end Go.Proofs.Ytckgpflobhpnpaa
