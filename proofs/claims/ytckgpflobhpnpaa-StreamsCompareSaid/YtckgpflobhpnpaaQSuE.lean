/-
  The reference of streams: comparisons, inputs; the laws: helpers.
-/
import Derived.Test.YtckgpflobhpnpaaQSuD
import Derived.Test.YtckgpflobhpnpaaQStS
namespace Go.Proofs.Ytckgpflobhpnpaa
open Go.RowKit
set_option linter.unusedVariables false
set_option linter.unusedSimpArgs false
abbrev xM : D := (.agg [(dL 6 pU ab aB.procs),(dL 5 tu ge aB.chans)])
abbrev Gf (c : Ci) : List D := [(dL 6 pU ab c.procs),(dL 5 tu ge c.chans)]
abbrev Ea (i : Nat) : D := (i6 ((i + 1 : Nat) : Int))
set_option maxRecDepth 100000
abbrev JT (a b : List Int) : Ct := ⟨42,[(LI a),(LI b)],false,(dB (iE a b))⟩
abbrev r6 (a : List Int) (b : List Int) : Lp (Nat) := pT [0,1,5] 0 (fun (i : Nat) => ⟨[(0,(LI a)),(1,(LI b)),(5,(i6 (i : Int)))],[]⟩) (fun (i : Nat) => i ≤ a.length∧i ≤ b.length∧∀ j,j < i → a.getD j 0 = b.getD j 0) (fun (i : Nat) => a.length - i)
theorem FJ (a b : List Int) (ha : a.length ≤ 9223372036854775807) : CC (JT a b) := by
 refine ai.vc (V := TT 2 (GO (r6 a b) 0 (∀ i,(r6 a b).inv i → TT 4 (CD ((i : Int) < (a.length : Int)) (CS ((i : Int) ≥ (b.length : Int)) (TT 4 ((True∧(decide ((i : Int) ≥ (b.length : Int))) = true)∧TT 3 (false = (iE a b)∧True))) (TT 4 ((True∧(decide ((i : Int) ≥ (b.length : Int))) = false)∧TT 2 (IX (i : Int) a.length∧TT 3 (IX (i : Int) b.length∧TT 3 (CN ((a.getD i 0) = (b.getD i 0)) (TT 2 (false = (iE a b)∧True)) (TT 1 (W6 ((i + 1 : Nat) : Int)∧TT 1 (AG (r6 a b) i (i + 1)))))))))) (TT 2 (true = (iE a b)∧True)))))) (.l (r6 a b) 0 (fun i => .b 9 (.s 4 ((i : Int) ≥ (b.length : Int)) (.w 4 [(4,.val (dB true))] <| .e) (.w 4 [(4,.val (dB false))] <| .b 26 (.e) (.w 3 [(1,.val (Ea i))] <| .e))) (.e))) Try.func42 rfl rfl rfl (by kernel_rfl) ?_
 refine tt ⟨rfl,⟨by omega,by omega,fun j hj => by omega⟩,?_⟩
 intro i hinv
 obtain ⟨hi,hi2,h3⟩ := hinv
 refine tt (cd (fun hc9 => ?_) (fun hc9 => ?_))
 · refine ⟨fun hs0 => ?_,fun hs0 => ?_⟩
   · refine tt ⟨(vT hs0),tt ⟨?_,oK⟩⟩
     first | exact (mN (i := i) (by omega) hi2 h3 (fun q => by omega)).symm | exact (mN (i := i) (by omega) hi2 h3 (fun q => by simp_all)).symm | exact (wq (by omega) (fun j hj => h3 j (by omega))).symm
   · refine tt ⟨(vF hs0),tt ⟨ix,tt ⟨ix,tt (cn (fun hc26 => ?_) (fun hc26 => ?_))⟩⟩⟩
     · refine tt ⟨?_,oK⟩
       first | exact (mN (i := i) (by omega) hi2 h3 (fun q => by omega)).symm | exact (mN (i := i) (by omega) hi2 h3 (fun q => by simp_all)).symm | exact (wq (by omega) (fun j hj => h3 j (by omega))).symm
     · refine tt ⟨w6,tt ⟨(i + 1),rfl,?_,(?_ : a.length - (i + 1) < a.length - i)⟩⟩
       · exact ⟨by omega,by omega,fM h3 (by simpa using hc26)⟩
       · omega
 · refine tt ⟨?_,oK⟩
   first | exact (mN (i := i) (by omega) hi2 h3 (fun q => by omega)).symm | exact (mN (i := i) (by omega) hi2 h3 (fun q => by simp_all)).symm | exact (wq (by omega) (fun j hj => h3 j (by omega))).symm
abbrev Ht (a b : List (List Int)) : Ct := ⟨28,[(dL 1 aa [] a),(dL 1 aa [] b)],false,(dB (aV a b))⟩
abbrev r7 (a : List (List Int)) (b : List (List Int)) : Lp (Nat) := pT [0,1,5] 0 (fun (i : Nat) => ⟨[(0,(dL 1 aa [] a)),(1,(dL 1 aa [] b)),(5,(i6 (i : Int)))],[]⟩) (fun (i : Nat) => i ≤ a.length∧∀ q,q < i → (!decide (bO (a.getD q []) (b.getD q []) < (a.getD q []).length)) = true) (fun (i : Nat) => a.length - i)
theorem ww (a b : List (List Int)) (ha : a.length ≤ 9223372036854775807) (hsa : ∀ i,(a.getD i []).length ≤ 9223372036854775807) : CC (Ht a b) := by
 refine ai.vc (V := TT 6 (CN ((a.length : Int) = (b.length : Int)) (TT 2 (false = (aV a b)∧True)) (TT 1 (GO (r7 a b) 0 (∀ i,(r7 a b).inv i → TT 4 (CD ((i : Int) < (a.length : Int)) (TT 2 (IX (i : Int) a.length∧TT 3 (IX (i : Int) b.length∧TT 1 (CC (JT (a.getD i []) (b.getD i []))∧TT 1 (CB (!(iE (a.getD i []) (b.getD i []))) (TT 2 (false = (aV a b)∧True)) (TT 1 (W6 ((i + 1 : Nat) : Int)∧TT 1 (AG (r7 a b) i (i + 1))))))))) (TT 2 (true = (aV a b)∧True)))))))) (.b 10 (.e) (.l (r7 a b) 0 (fun i => .b 14 (.w 6 [(8,(JT (a.getD i []) (b.getD i [])).O)] <| .b 26 (.e) (.w 5 [(1,.val (Ea i))] <| .e)) (.e)))) Try.func28 rfl rfl rfl (by kernel_rfl) ?_
 refine tt (cn (fun hc10 => ?_) (fun hc10 => ?_))
 · refine tt ⟨?_,oK⟩
   first | exact (mC (by omega)).symm | exact (mD (i := i) (by omega) (by unfold iE at hc26; simpa using hc26)).symm | exact (mE (by omega) (fun q hq => h3 q (by omega))).symm
 · refine tt ⟨rfl,⟨by omega,fun q hq => by omega⟩,?_⟩
   intro i hinv
   obtain ⟨hi,h3⟩ := hinv
   refine tt (cd (fun hc14 => ?_) (fun hc14 => ?_))
   · refine tt ⟨ix,tt ⟨ix,tt ⟨(FJ (a.getD i []) (b.getD i []) (hsa i)),tt ⟨fun hc26 => ?_,fun hc26 => ?_⟩⟩⟩⟩
     · refine tt ⟨?_,oK⟩
       first | exact (mC (by omega)).symm | exact (mD (i := i) (by omega) (by unfold iE at hc26; simpa using hc26)).symm | exact (mE (by omega) (fun q hq => h3 q (by omega))).symm
     · refine tt ⟨w6,tt ⟨(i + 1),rfl,?_,(?_ : a.length - (i + 1) < a.length - i)⟩⟩
       · exact ⟨by omega,fM h3 (show iE (a.getD i []) (b.getD i []) = true by simpa using hc26)⟩
       · omega
   · refine tt ⟨?_,oK⟩
     first | exact (mC (by omega)).symm | exact (mD (i := i) (by omega) (by unfold iE at hc26; simpa using hc26)).symm | exact (mE (by omega) (fun q hq => h3 q (by omega))).symm
abbrev FK (a b : List (List Int)) : Ct := ⟨15,[(dL 1 aa [] a),(dL 1 aa [] b)],false,(dB (lQ a b))⟩
theorem r8 (a b : List (List Int)) (ha : a.length ≤ 9223372036854775807) (hsa : ∀ i,(a.getD i []).length ≤ 9223372036854775807) (hb : b.length ≤ 9223372036854775807) (hsb : ∀ i,(b.getD i []).length ≤ 9223372036854775807) : CC (FK a b) := by
 refine ai.vc (V := TT 1 (CS ((aV a b) = true) (TT 2 (CC (Ht a b)∧(True∧(aV a b) = true)∧TT 2 (CC (Ht b a)∧TT 3 ((aV b a) = (lQ a b)∧True)))) (TT 2 (CC (Ht a b)∧(True∧(aV a b) = false)∧TT 6 (false = (lQ a b)∧True))))) (.s 1 ((aV a b) = true) (.w 1 [(2,(Ht a b).O),(3,.val (dB true)),(6,(Ht b a).O)] <| .e) (.w 1 [(2,(Ht a b).O),(3,.val (dB false))] <| .e)) Try.func15 rfl rfl rfl (by kernel_rfl) ?_
 refine tt ⟨fun hs0 => ?_,fun hs0 => ?_⟩
 · refine tt ⟨(ww a b ha hsa),⟨(bT hs0),tt ⟨(ww b a hb hsb),tt ⟨?_,oK⟩⟩⟩⟩
   first | exact (D9 (by simpa using hs0)).symm | exact (rZ (by simpa using hs0)).symm
 · refine tt ⟨(ww a b ha hsa),⟨(bF hs0),tt ⟨?_,oK⟩⟩⟩
   first | exact (D9 (by simpa using hs0)).symm | exact (rZ (by simpa using hs0)).symm
abbrev Hu (a b : List Int) : Ct := ⟨30,[(LI a),(LI b)],false,(dB (decide (a = b)))⟩
abbrev pQ (a : List Int) (b : List Int) : Lp (Nat) := pT [0,1,5] 0 (fun (k : Nat) => ⟨[(0,(LI a)),(1,(LI b)),(5,(i6 (k : Int)))],[]⟩) (fun (k : Nat) => k ≤ a.length∧∀ z,z < k → a.getD z 0 = b.getD z 0) (fun (k : Nat) => a.length - k)
theorem Eb (a b : List Int) (ha : a.length ≤ 9223372036854775807) : CC (Hu a b) := by
 refine ai.vc (V := TT 6 (CN ((a.length : Int) = (b.length : Int)) (TT 2 (false = (decide (a = b))∧True)) (TT 1 (GO (pQ a b) 0 (∀ k,(pQ a b).inv k → TT 4 (CD ((k : Int) < (a.length : Int)) (TT 2 (IX (k : Int) a.length∧TT 3 (IX (k : Int) b.length∧TT 2 (CN ((a.getD k 0) = (b.getD k 0)) (TT 2 (false = (decide (a = b))∧True)) (TT 1 (W6 ((k + 1 : Nat) : Int)∧TT 1 (AG (pQ a b) k (k + 1)))))))) (TT 2 (true = (decide (a = b))∧True)))))))) (.b 10 (.e) (.l (pQ a b) 0 (fun k => .b 14 (.b 25 (.e) (.w 5 [(1,.val (i6 ((k + 1 : Nat) : Int)))] <| .e)) (.e)))) Try.func30 rfl rfl rfl (by kernel_rfl) ?_
 refine tt (cn (fun hc10 => ?_) (fun hc10 => ?_))
 · refine tt ⟨?_,oK⟩
   first | exact (decide_eq_false (fun e => by subst e; omega)).symm | exact (decide_eq_false (same_no (k := k) (by simpa using hc25))).symm | exact (decide_eq_true (qr (by omega) (by omega) hall)).symm
 · refine tt ⟨rfl,⟨by omega,fun z hz => by omega⟩,?_⟩
   intro k hinv
   obtain ⟨hk,hall⟩ := hinv
   refine tt (cd (fun hc14 => ?_) (fun hc14 => ?_))
   · refine tt ⟨ix,tt ⟨ix,tt (cn (fun hc25 => ?_) (fun hc25 => ?_))⟩⟩
     · refine tt ⟨?_,oK⟩
       first | exact (decide_eq_false (fun e => by subst e; omega)).symm | exact (decide_eq_false (same_no (k := k) (by simpa using hc25))).symm | exact (decide_eq_true (qr (by omega) (by omega) hall)).symm
     · refine tt ⟨w6,tt ⟨(k + 1),rfl,?_,(?_ : a.length - (k + 1) < a.length - k)⟩⟩
       · exact ⟨by omega,fM hall (by simpa using hc25)⟩
       · omega
   · refine tt ⟨?_,oK⟩
     first | exact (decide_eq_false (fun e => by subst e; omega)).symm | exact (decide_eq_false (same_no (k := k) (by simpa using hc25))).symm | exact (decide_eq_true (qr (by omega) (by omega) hall)).symm
abbrev Hv (a b : Rs) : Ct := ⟨18,[(.agg [(dL 1 aa [] a.l),(LI a.c),(i6 a.e)]),(.agg [(dL 1 aa [] b.l),(LI b.c),(i6 b.e)])],false,(dB (mZ a b))⟩
theorem wx (a b : Rs) (hl : a.l.length ≤ 9223372036854775807) (hsl : ∀ i,(a.l.getD i []).length ≤ 9223372036854775807) (hbl : b.l.length ≤ 9223372036854775807) (hsb : ∀ i,(b.l.getD i []).length ≤ 9223372036854775807) (hcc : a.c.length ≤ 9223372036854775807) : CC (Hv a b) := by
 refine ai.vc (V := TT 3 (CS (a.e = b.e) (CS ((lQ a.l b.l) = true) (TT 5 ((True∧(decide (a.e = b.e)) = true)∧TT 4 (CC (FK a.l b.l)∧TT 1 ((True∧(lQ a.l b.l) = true)∧TT 4 (CC (Hu a.c b.c)∧TT 3 ((decide (a.c = b.c)) = (mZ a b)∧True)))))) (TT 5 ((True∧(decide (a.e = b.e)) = true)∧TT 4 (CC (FK a.l b.l)∧TT 1 ((True∧(lQ a.l b.l) = false)∧TT 8 (false = (mZ a b)∧True)))))) (TT 5 ((True∧(decide (a.e = b.e)) = false)∧TT 15 (false = (mZ a b)∧True))))) (.s 1 (a.e = b.e) (.s 1 ((lQ a.l b.l) = true) (.w 1 [(5,.val (dB true)),(10,(FK a.l b.l).O),(12,.val (dB true)),(17,(Hu a.c b.c).O)] <| .e) (.w 1 [(5,.val (dB true)),(10,(FK a.l b.l).O),(12,.val (dB false))] <| .e)) (.w 1 [(5,.val (dB false))] <| .e)) Try.func18 rfl rfl rfl (by kernel_rfl) ?_
 refine tt ⟨fun hs0 => ?_,fun hs0 => ?_⟩
 · refine ⟨fun hs1 => ?_,fun hs1 => ?_⟩
   · refine tt ⟨(vT hs0),tt ⟨(r8 a.l b.l hl hsl hbl hsb),tt ⟨(bT hs1),tt ⟨(Eb a.c b.c hcc),tt ⟨?_,oK⟩⟩⟩⟩⟩
     first | exact (wt hs0).symm | exact (wu (by simpa using hs1)).symm | exact (wv hs0 (by simpa using hs1)).symm
   · refine tt ⟨(vT hs0),tt ⟨(r8 a.l b.l hl hsl hbl hsb),tt ⟨(bF hs1),tt ⟨?_,oK⟩⟩⟩⟩
     first | exact (wt hs0).symm | exact (wu (by simpa using hs1)).symm | exact (wv hs0 (by simpa using hs1)).symm
 · refine tt ⟨(vF hs0),tt ⟨?_,oK⟩⟩
   first | exact (wt hs0).symm | exact (wu (by simpa using hs1)).symm | exact (wv hs0 (by simpa using hs1)).symm
abbrev BL (c : Ci) (inp : List (List Int)) (n : Int) (cls : List ByteArray) : Ct := ⟨11,[(.agg (Gf c)),(.agg [(dL 1 aa [] inp),(i6 n),(dL 1 wZ .empty cls)])],true,(.agg [(dL 1 aa [] ((gd c inp n).l)),(LI ((gd c inp n).c)),(i6 ((gd c inp n).e))])⟩
theorem r9 (c : Ci) (inp : List (List Int)) (n : Int) (cls : List ByteArray) (hc : a8 c) (hq : HB c) (hl : inp.length ≤ 100000) (hs : ∀ z ∈ inp,z.length ≤ 100000) : CC (BL c inp n cls) := by
 refine ai.vc (V := TT 8 (CC (JN c inp n)∧TT 13 (((ef c inp n).1).map aa = ((gd c inp n).l).map aa∧((ef c inp n).2.1).map (ae .i64) = ((gd c inp n).c).map (ae .i64)∧((ef c inp n).2.2) = ((gd c inp n).e)∧True))) (.w 1 [(5,(JN c inp n).O)] <| .e) Try.func11 rfl rfl rfl (by kernel_rfl) ?_
 refine tt ⟨(xK c inp n hc hq hl hs),tt ⟨(congrArg _ (?_ : ((ef c inp n).1) = ((gd c inp n).l))),(congrArg _ (?_ : ((ef c inp n).2.1) = ((gd c inp n).c))),?_,oK⟩⟩
 all_goals (rfl)
abbrev JU (c : Ci) (inp : List (List Int)) (n : Int) (cls : List ByteArray) : Ct := ⟨10,[(.agg (Gf c)),(.agg [(dL 1 aa [] inp),(i6 n),(dL 1 wZ .empty cls)])],true,(.agg [(dL 1 aa [] ((kL c inp cls).l)),(LI ((kL c inp cls).c)),(i6 ((kL c inp cls).e))])⟩
theorem FL (c : Ci) (inp : List (List Int)) (n : Int) (cls : List ByteArray) (hc : a8 c) (hq : HB c) (hl : inp.length ≤ 100000) (hs : ∀ z ∈ inp,z.length ≤ 100000) (hcl : cls.length ≤ 9223372036854775807) : CC (JU c inp n cls) := by
 refine ai.vc (V := TT 8 (CC (JM c inp cls)∧TT 13 (((gl c inp cls).1).map aa = ((kL c inp cls).l).map aa∧((gl c inp cls).2.1).map (ae .i64) = ((kL c inp cls).c).map (ae .i64)∧((gl c inp cls).2.2) = ((kL c inp cls).e)∧True))) (.w 1 [(5,(JM c inp cls).O)] <| .e) Try.func10 rfl rfl rfl (by kernel_rfl) ?_
 refine tt ⟨(BK c inp cls hc hq hl hs hcl),tt ⟨(congrArg _ (?_ : ((gl c inp cls).1) = ((kL c inp cls).l))),(congrArg _ (?_ : ((gl c inp cls).2.1) = ((kL c inp cls).c))),?_,oK⟩⟩
 all_goals (rfl)
abbrev Ec (a b : List (List Int)) : Ct := ⟨16,[(dL 1 aa [] a),(dL 1 aa [] b)],false,(.agg [(i6 (((aX a b) : Nat) : Int)),(i6 (((a7 a b) : Nat) : Int)),(dB ((ao a b).2.2))])⟩
theorem pR (a b : List (List Int)) (ha : a.length ≤ 9223372036854775807) (hsa : ∀ i,(a.getD i []).length ≤ 9223372036854775807) : CC (Ec a b) := by
 refine ai.vc (V := TT 3 (CC (JI a b)∧TT 13 (((((ao a b).1) = (((aX a b) : Nat) : Int)∧((ao a b).2.1) = (((a7 a b) : Nat) : Int)∧((ao a b).2.2) = ((ao a b).2.2)∧True))∧((True∧True∧True∧True))))) (.w 1 [(2,(JI a b).O)] <| .e) Try.func16 rfl rfl rfl (by kernel_rfl) ?_
 refine tt ⟨(DP a b ha hsa),tt ⟨⟨?_,?_,rfl,oK⟩,⟨oK,oK,oK,oK⟩⟩⟩
 · exact (xL a b).1
 · exact (xL a b).2
abbrev BM (l : List (List Int)) : Ct := ⟨14,[(dL 1 aa [] l)],false,(dB (rp l))⟩
abbrev sa (l : List (List Int)) : Lp (Nat × Int) := zW [0,3,4] 0 (fun (i : Nat) (a : Int) => ⟨[(0,(dL 1 aa [] l)),(3,(i6 a)),(4,(i6 (i : Int)))],[]⟩) (fun (i : Nat) (a : Int) => i ≤ l.length∧a = Hs l i) (fun (i : Nat) (a : Int) => l.length - i)
theorem mO (l : List (List Int)) (hl : l.length ≤ 9223372036854775807) : CC (BM l) := by
 refine ai.vc (V := TT 5 (GO (sa l) (0,(l.length : Int)) (∀ i a,(sa l).inv (i,a) → TT 4 (CD ((i : Int) < (l.length : Int)) (TT 3 (IX (i : Int) l.length∧TT 5 (W6 ((i + 1 : Nat) : Int)∧TT 1 (AG (sa l) (i,a) (i + 1,IntKind.wrap .i64 (a + (((l.getD i []).length : Nat) : Int))))))) (TT 4 ((decide (a ≤ 60)) = (rp l)∧True)))))) (.l (sa l) (0,(l.length : Int)) (fun ⟨i,a⟩ => .b 10 (.w 4 [(1,.val (Ea i))] <| .e) (.e))) Try.func14 rfl rfl rfl (by kernel_rfl) ?_
 refine tt ⟨rfl,⟨by omega,rfl⟩,?_⟩
 intro i a hinv
 obtain ⟨hi,ha⟩ := hinv
 refine tt (cd (fun hc10 => ?_) (fun hc10 => ?_))
 · refine tt ⟨ix,tt ⟨w6,tt ⟨(i + 1,IntKind.wrap .i64 (a + (((l.getD i []).length : Nat) : Int))),rfl,?_,(?_ : l.length - (i + 1) < l.length - i)⟩⟩⟩
   · exact ⟨by omega,by rw [ha]; rfl⟩
   · omega
 · refine tt ⟨?_,oK⟩
   rw [ha,show i = l.length by omega]; rfl
abbrev JV : Ct := ⟨17,[],true,xM⟩
theorem FM  : CC JV := by
 refine ai.vc (V := TT 8 (aF [[(i6 16),(dS e0),(i6 0),(dS e0),(i6 0),(dS e0),.nils],[(i6 18),(dS e0),(i6 0),(dS e0),(i6 0),(dS e0),.nils]] ([(⟨16,e0,⟨0,e0⟩,⟨0,e0⟩,[]⟩ : Ex),(⟨18,e0,⟨0,e0⟩,⟨0,e0⟩,[]⟩ : Ex)].map (eA 2))∧TT 5 (aF [[(dS (bs [114])),(i6 2),(i6 0),(i6 6),(dS e0),(i6 0),(dS e0),(i6 0),(dS e0),(dL 7 (eA 2) dE [(⟨16,e0,⟨0,e0⟩,⟨0,e0⟩,[]⟩ : Ex),(⟨18,e0,⟨0,e0⟩,⟨0,e0⟩,[]⟩ : Ex)]),(i6 0),(dS e0),(i6 0)]] ([(⟨(bs [114]),2,0,⟨6,e0,⟨0,e0⟩,⟨0,e0⟩,[(⟨16,e0,⟨0,e0⟩,⟨0,e0⟩,[]⟩ : Ex),(⟨18,e0,⟨0,e0⟩,⟨0,e0⟩,[]⟩ : Ex)]⟩,⟨0,e0,0⟩⟩ : Rg)].map wA)∧TT 2 (aF [[(i6 0),(i6 2),(i6 1),(dS e0),(i6 1),(dS e0),(i6 1),(dS e0),.nils]] ([(⟨0,2,⟨1,e0,⟨1,e0⟩,⟨1,e0⟩,[]⟩⟩ : Tk)].map tE)∧TT 3 (aF [[(i6 1),(i6 2),(i6 1),(dS e0),(i6 1),(dS e0),(i6 1),(dS e0),.nils,(i6 6),(dS e0),(i6 0),(dS e0),(i6 0),(dS e0),(dL 7 (eA 2) dE [(⟨16,e0,⟨0,e0⟩,⟨0,e0⟩,[]⟩ : Ex),(⟨18,e0,⟨0,e0⟩,⟨0,e0⟩,[]⟩ : Ex)])]] ([(⟨1,2,⟨1,e0,⟨1,e0⟩,⟨1,e0⟩,[]⟩,⟨6,e0,⟨0,e0⟩,⟨0,e0⟩,[(⟨16,e0,⟨0,e0⟩,⟨0,e0⟩,[]⟩ : Ex),(⟨18,e0,⟨0,e0⟩,⟨0,e0⟩,[]⟩ : Ex)]⟩⟩ : Pt)].map vP)∧TT 4 (aF [[(dS (bs [112])),(dS (bs [97])),(dL 13 wA eD [(⟨(bs [114]),2,0,⟨6,e0,⟨0,e0⟩,⟨0,e0⟩,[(⟨16,e0,⟨0,e0⟩,⟨0,e0⟩,[]⟩ : Ex),(⟨18,e0,⟨0,e0⟩,⟨0,e0⟩,[]⟩ : Ex)]⟩,⟨0,e0,0⟩⟩ : Rg)]),.nils,(dL 9 tE aQ [(⟨0,2,⟨1,e0,⟨1,e0⟩,⟨1,e0⟩,[]⟩⟩ : Tk)]),(dL 16 vP aI [(⟨1,2,⟨1,e0,⟨1,e0⟩,⟨1,e0⟩,[]⟩,⟨6,e0,⟨0,e0⟩,⟨0,e0⟩,[(⟨16,e0,⟨0,e0⟩,⟨0,e0⟩,[]⟩ : Ex),(⟨18,e0,⟨0,e0⟩,⟨0,e0⟩,[]⟩ : Ex)]⟩⟩ : Pt)])]] ([(⟨(bs [112]),(bs [97]),[(⟨(bs [114]),2,0,⟨6,e0,⟨0,e0⟩,⟨0,e0⟩,[(⟨16,e0,⟨0,e0⟩,⟨0,e0⟩,[]⟩ : Ex),(⟨18,e0,⟨0,e0⟩,⟨0,e0⟩,[]⟩ : Ex)]⟩,⟨0,e0,0⟩⟩ : Rg)],[],[(⟨0,2,⟨1,e0,⟨1,e0⟩,⟨1,e0⟩,[]⟩⟩ : Tk)],[(⟨1,2,⟨1,e0,⟨1,e0⟩,⟨1,e0⟩,[]⟩,⟨6,e0,⟨0,e0⟩,⟨0,e0⟩,[(⟨16,e0,⟨0,e0⟩,⟨0,e0⟩,[]⟩ : Ex),(⟨18,e0,⟨0,e0⟩,⟨0,e0⟩,[]⟩ : Ex)]⟩⟩ : Pt)]⟩ : Pr)].map pU)∧TT 2 (aF [[(dS (bs [105])),(i6 2),(i6 0),(i6 (-1)),(i6 0)],[(dS (bs [111])),(i6 2),(i6 0),(i6 0),(i6 (-1))]] ([(⟨(bs [105]),2,0,(-1),0⟩ : Ch),(⟨(bs [111]),2,0,0,(-1)⟩ : Ch)].map tu)∧TT 3 ([(⟨(bs [112]),(bs [97]),[(⟨(bs [114]),2,0,⟨6,e0,⟨0,e0⟩,⟨0,e0⟩,[(⟨16,e0,⟨0,e0⟩,⟨0,e0⟩,[]⟩ : Ex),(⟨18,e0,⟨0,e0⟩,⟨0,e0⟩,[]⟩ : Ex)]⟩,⟨0,e0,0⟩⟩ : Rg)],[],[(⟨0,2,⟨1,e0,⟨1,e0⟩,⟨1,e0⟩,[]⟩⟩ : Tk)],[(⟨1,2,⟨1,e0,⟨1,e0⟩,⟨1,e0⟩,[]⟩,⟨6,e0,⟨0,e0⟩,⟨0,e0⟩,[(⟨16,e0,⟨0,e0⟩,⟨0,e0⟩,[]⟩ : Ex),(⟨18,e0,⟨0,e0⟩,⟨0,e0⟩,[]⟩ : Ex)]⟩⟩ : Pt)]⟩ : Pr)].map pU = aB.procs.map pU∧[(⟨(bs [105]),2,0,(-1),0⟩ : Ch),(⟨(bs [111]),2,0,0,(-1)⟩ : Ch)].map tu = aB.chans.map tu∧True)))))))) (.w 2 [(2,.frz 85 7 (eA 2) dE [(⟨16,e0,⟨0,e0⟩,⟨0,e0⟩,[]⟩ : Ex),(⟨18,e0,⟨0,e0⟩,⟨0,e0⟩,[]⟩ : Ex)])] <| .w 3 [(2,.frz 89 13 wA eD [(⟨(bs [114]),2,0,⟨6,e0,⟨0,e0⟩,⟨0,e0⟩,[(⟨16,e0,⟨0,e0⟩,⟨0,e0⟩,[]⟩ : Ex),(⟨18,e0,⟨0,e0⟩,⟨0,e0⟩,[]⟩ : Ex)]⟩,⟨0,e0,0⟩⟩ : Rg)]),(5,.frz 91 9 tE aQ [(⟨0,2,⟨1,e0,⟨1,e0⟩,⟨1,e0⟩,[]⟩⟩ : Tk)]),(9,.frz 93 16 vP aI [(⟨1,2,⟨1,e0,⟨1,e0⟩,⟨1,e0⟩,[]⟩,⟨6,e0,⟨0,e0⟩,⟨0,e0⟩,[(⟨16,e0,⟨0,e0⟩,⟨0,e0⟩,[]⟩ : Ex),(⟨18,e0,⟨0,e0⟩,⟨0,e0⟩,[]⟩ : Ex)]⟩⟩ : Pt)])] <| .w 4 [(1,.frz 63 6 pU ab [(⟨(bs [112]),(bs [97]),[(⟨(bs [114]),2,0,⟨6,e0,⟨0,e0⟩,⟨0,e0⟩,[(⟨16,e0,⟨0,e0⟩,⟨0,e0⟩,[]⟩ : Ex),(⟨18,e0,⟨0,e0⟩,⟨0,e0⟩,[]⟩ : Ex)]⟩,⟨0,e0,0⟩⟩ : Rg)],[],[(⟨0,2,⟨1,e0,⟨1,e0⟩,⟨1,e0⟩,[]⟩⟩ : Tk)],[(⟨1,2,⟨1,e0,⟨1,e0⟩,⟨1,e0⟩,[]⟩,⟨6,e0,⟨0,e0⟩,⟨0,e0⟩,[(⟨16,e0,⟨0,e0⟩,⟨0,e0⟩,[]⟩ : Ex),(⟨18,e0,⟨0,e0⟩,⟨0,e0⟩,[]⟩ : Ex)]⟩⟩ : Pt)]⟩ : Pr)]),(4,.frz 70 5 tu ge [(⟨(bs [105]),2,0,(-1),0⟩ : Ch),(⟨(bs [111]),2,0,0,(-1)⟩ : Ch)])] <| .e) Try.func17 rfl rfl rfl (by kernel_rfl) ?_
 refine tt ⟨⟨⟨rfl,rfl,rfl,rfl,rfl,rfl,rfl,oK⟩,⟨rfl,rfl,rfl,rfl,rfl,rfl,rfl,oK⟩,oK⟩,tt ⟨⟨⟨rfl,rfl,rfl,rfl,rfl,rfl,rfl,rfl,rfl,rfl,rfl,rfl,rfl,oK⟩,oK⟩,tt ⟨⟨⟨rfl,rfl,rfl,rfl,rfl,rfl,rfl,rfl,rfl,oK⟩,oK⟩,tt ⟨⟨⟨rfl,rfl,rfl,rfl,rfl,rfl,rfl,rfl,rfl,rfl,rfl,rfl,rfl,rfl,rfl,rfl,oK⟩,oK⟩,tt ⟨⟨⟨rfl,rfl,rfl,rfl,rfl,rfl,oK⟩,oK⟩,tt ⟨⟨⟨rfl,rfl,rfl,rfl,rfl,oK⟩,⟨rfl,rfl,rfl,rfl,rfl,oK⟩,oK⟩,tt ⟨(congrArg _ (?_ : [(⟨(bs [112]),(bs [97]),[(⟨(bs [114]),2,0,⟨6,e0,⟨0,e0⟩,⟨0,e0⟩,[(⟨16,e0,⟨0,e0⟩,⟨0,e0⟩,[]⟩ : Ex),(⟨18,e0,⟨0,e0⟩,⟨0,e0⟩,[]⟩ : Ex)]⟩,⟨0,e0,0⟩⟩ : Rg)],[],[(⟨0,2,⟨1,e0,⟨1,e0⟩,⟨1,e0⟩,[]⟩⟩ : Tk)],[(⟨1,2,⟨1,e0,⟨1,e0⟩,⟨1,e0⟩,[]⟩,⟨6,e0,⟨0,e0⟩,⟨0,e0⟩,[(⟨16,e0,⟨0,e0⟩,⟨0,e0⟩,[]⟩ : Ex),(⟨18,e0,⟨0,e0⟩,⟨0,e0⟩,[]⟩ : Ex)]⟩⟩ : Pt)]⟩ : Pr)] = aB.procs)),(congrArg _ (?_ : [(⟨(bs [105]),2,0,(-1),0⟩ : Ch),(⟨(bs [111]),2,0,0,(-1)⟩ : Ch)] = aB.chans)),oK⟩⟩⟩⟩⟩⟩⟩
 all_goals (rfl)
theorem IG : mZ (gd aB [[1,2,2],[]] 100) (⟨[[1,2,2],[1,3,1]],[3],0⟩ : Rs) = true := by unfold gd; rw [JO]; decide
theorem IH : mZ (gd aB [[1,2,2],[]] 2) (⟨[[1,2,2],[1,3]],[2],0⟩ : Rs) = true := by unfold gd; rw [JP]; decide
theorem II : mZ (kL aB [[1,2,2],[]] [bs [97],bs [97]]) (⟨[[1,2,2],[1,3]],[2],0⟩ : Rs) = true := by unfold kL; rw [JQ]; decide
abbrev c6 : Ct := ⟨6,[],false,(dB true)⟩
theorem Hw  : CC c6 := by
 refine ai.vc (V := TT 1 (CC JV∧TT 2 (aF [[(i6 1)],[(i6 2)],[(i6 2)]] ([1,2,2].map (ae .i64))∧aF [[(LI [1,2,2])],[.nils]] ([[1,2,2],[]].map aa)∧TT 1 (aF [[(i6 1)],[(i6 2)],[(i6 2)]] ([1,2,2].map (ae .i64))∧aF [[(i6 1)],[(i6 3)],[(i6 1)]] ([1,3,1].map (ae .i64))∧aF [[(LI [1,2,2])],[(LI [1,3,1])]] ([[1,2,2],[1,3,1]].map aa)∧aF [[(i6 3)]] ([3].map (ae .i64))∧TT 3 (aF [[(i6 1)],[(i6 2)],[(i6 2)]] ([1,2,2].map (ae .i64))∧aF [[(i6 1)],[(i6 3)]] ([1,3].map (ae .i64))∧aF [[(LI [1,2,2])],[(LI [1,3])]] ([[1,2,2],[1,3]].map aa)∧aF [[(i6 2)]] ([2].map (ae .i64))∧TT 6 ((xP [] [xM,(.agg [(dL 1 aa [] [[1,2,2],[]]),(i6 100),.nils])] (BL aB [[1,2,2],[]] 100 []).as∧CC (BL aB [[1,2,2],[]] 100 []))∧TT 1 (CC (Hv (gd aB [[1,2,2],[]] 100) (⟨[[1,2,2],[1,3,1]],[3],0⟩ : Rs))∧TT 1 ((True∧(!(mZ (gd aB [[1,2,2],[]] 100) (⟨[[1,2,2],[1,3,1]],[3],0⟩ : Rs))) = false)∧TT 3 ((xP [] [xM,(.agg [(dL 1 aa [] [[1,2,2],[]]),(i6 2),.nils])] (BL aB [[1,2,2],[]] 2 []).as∧CC (BL aB [[1,2,2],[]] 2 []))∧TT 1 (CC (Hv (gd aB [[1,2,2],[]] 2) (⟨[[1,2,2],[1,3]],[2],0⟩ : Rs))∧TT 2 ((True∧(!(mZ (gd aB [[1,2,2],[]] 2) (⟨[[1,2,2],[1,3]],[2],0⟩ : Rs))) = false)∧TT 2 (aF [[(dS (bs [97]))],[(dS (bs [97]))]] ([(bs [97]),(bs [97])].map wZ)∧TT 1 (CC (JU aB [[1,2,2],[]] 0 [(bs [97]),(bs [97])])∧TT 1 (CC (Hv (kL aB [[1,2,2],[]] [(bs [97]),(bs [97])]) (⟨[[1,2,2],[1,3]],[2],0⟩ : Rs))∧TT 2 ((!(mZ (kL aB [[1,2,2],[]] [(bs [97]),(bs [97])]) (⟨[[1,2,2],[1,3]],[2],0⟩ : Rs))) = false∧TT 1 (aF [[(i6 4)]] ([4].map (ae .i64))∧aF [[(LI [4])],[.nils]] ([[4],[]].map aa)∧TT 1 ((xP [] [xM,(.agg [(dL 1 aa [] [[4],[]]),(i6 1),.nils])] (BL aB [[4],[]] 1 []).as∧CC (BL aB [[4],[]] 1 []))∧TT 5 ((xP [] [xM,(.agg [(dL 1 aa [] [[1,2,2],[]]),(i6 101),.nils])] (BL aB [[1,2,2],[]] 101 []).as∧CC (BL aB [[1,2,2],[]] 101 []))∧TT 5 ((True∧(decide (((gd aB [[4],[]] 1).e) = 1)) = true)∧TT 4 ((True∧(decide (((gd aB [[1,2,2],[]] 101).e) = 1)) = true)∧TT 4 (CC (cJ [[1,2,2],[1,3]] [[1,2,2],[1,3,1]])∧TT 1 ((True∧(aV [[1,2,2],[1,3]] [[1,2,2],[1,3,1]]) = true)∧TT 4 (CC (cJ [[1,2,2],[1,3,1]] [[1,2,2],[1,3]])∧TT 2 ((True∧(!(aV [[1,2,2],[1,3,1]] [[1,2,2],[1,3]])) = true)∧TT 2 (aF [[(i6 1)],[(i6 3)],[(i6 2)]] ([1,3,2].map (ae .i64))∧aF [[.nils],[(LI [1,3,2])]] ([[],[1,3,2]].map aa)∧CC (Ec [[1,2,2],[1,3,1]] [[],[1,3,2]])∧TT 3 ((True∧(((((aX [[1,2,2],[1,3,1]] [[],[1,3,2]]) : Nat) : Int) == 1) && (((((a7 [[1,2,2],[1,3,1]] [[],[1,3,2]]) : Nat) : Int) == 2) && (((ao [[1,2,2],[1,3,1]] [[],[1,3,2]]).2.2) == true))) = true)∧TT 4 (CC (Ec [[1,2,2],[1,3,1]] [[1,2,2],[1,3]])∧TT 5 ((((((aX [[1,2,2],[1,3,1]] [[1,2,2],[1,3]]) : Nat) : Int) == 0) && (((((a7 [[1,2,2],[1,3,1]] [[1,2,2],[1,3]]) : Nat) : Int) == 0) && (((ao [[1,2,2],[1,3,1]] [[1,2,2],[1,3]]).2.2) == false))) = true∧True)))))))))))))))))))))))))))) (.w 1 [(0,JV.O)] <| .w 2 [(0,.frz 3 1 (ae .i64) 0 [1,2,2]),(1,.frz 37 1 aa [] [[1,2,2],[]])] <| .w 3 [(0,.frz 3 1 (ae .i64) 0 [1,2,2]),(1,.frz 3 1 (ae .i64) 0 [1,3,1]),(2,.frz 37 1 aa [] [[1,2,2],[1,3,1]]),(3,.frz 3 1 (ae .i64) 0 [3])] <| .w 4 [(0,.frz 3 1 (ae .i64) 0 [1,2,2]),(1,.frz 3 1 (ae .i64) 0 [1,3]),(2,.frz 37 1 aa [] [[1,2,2],[1,3]]),(3,.frz 3 1 (ae .i64) 0 [2])] <| .w 5 [(3,(BL aB [[1,2,2],[]] 100 []).O'),(5,(Hv (gd aB [[1,2,2],[]] 100) (⟨[[1,2,2],[1,3,1]],[3],0⟩ : Rs)).O),(7,.val (dB false)),(11,(BL aB [[1,2,2],[]] 2 []).O'),(13,(Hv (gd aB [[1,2,2],[]] 2) (⟨[[1,2,2],[1,3]],[2],0⟩ : Rs)).O),(16,.val (dB false)),(19,.box 9 1 wZ .empty [(bs [97]),(bs [97])]),(21,(JU aB [[1,2,2],[]] 0 [(bs [97]),(bs [97])]).O),(23,(Hv (kL aB [[1,2,2],[]] [(bs [97]),(bs [97])]) (⟨[[1,2,2],[1,3]],[2],0⟩ : Rs)).O)] <| .u 45 (.w 7 [(1,.frz 3 1 (ae .i64) 0 [4]),(2,.frz 37 1 aa [] [[4],[]]),(4,(BL aB [[4],[]] 1 []).O')] <| .w 8 [(3,(BL aB [[1,2,2],[]] 101 []).O')] <| .w 9 [(3,.val (dB true)),(8,.val (dB true)),(13,(cJ [[1,2,2],[1,3]] [[1,2,2],[1,3,1]]).O),(15,.val (dB true)),(20,(cJ [[1,2,2],[1,3,1]] [[1,2,2],[1,3]]).O),(23,.val (dB true)),(26,.frz 3 1 (ae .i64) 0 [1,3,2]),(27,.frz 37 1 aa [] [[],[1,3,2]]),(28,(Ec [[1,2,2],[1,3,1]] [[],[1,3,2]]).O),(32,.val (dB true)),(37,(Ec [[1,2,2],[1,3,1]] [[1,2,2],[1,3]]).O)] <| .e)) Try.func6 rfl rfl rfl (by kernel_rfl) ?_
 refine tt ⟨(FM),tt ⟨⟨⟨rfl,oK⟩,⟨rfl,oK⟩,⟨rfl,oK⟩,oK⟩,⟨⟨⟨rfl,oK⟩,⟨rfl,oK⟩,oK⟩,tt ⟨⟨⟨rfl,oK⟩,⟨rfl,oK⟩,⟨rfl,oK⟩,oK⟩,⟨⟨⟨rfl,oK⟩,⟨rfl,oK⟩,⟨rfl,oK⟩,oK⟩,⟨⟨⟨rfl,oK⟩,⟨rfl,oK⟩,oK⟩,⟨⟨⟨rfl,oK⟩,oK⟩,tt ⟨⟨⟨rfl,oK⟩,⟨rfl,oK⟩,⟨rfl,oK⟩,oK⟩,⟨⟨⟨rfl,oK⟩,⟨rfl,oK⟩,oK⟩,⟨⟨⟨rfl,oK⟩,⟨rfl,oK⟩,oK⟩,⟨⟨⟨rfl,oK⟩,oK⟩,tt ⟨⟨⟨⟨rfl,rfl,oK⟩,⟨rfl,rfl,rfl,oK⟩,oK⟩,(r9 aB [[1,2,2],[]] 100 [] cb lR (by decide) (by decide))⟩,tt ⟨(wx (gd aB [[1,2,2],[]] 100) (⟨[[1,2,2],[1,3,1]],[3],0⟩ : Rs) (qE cb).1 (qE cb).2.1 (by decide) (oA (by decide)) (qE cb).2.2),tt ⟨(mF IG),tt ⟨⟨⟨⟨rfl,rfl,oK⟩,⟨rfl,rfl,rfl,oK⟩,oK⟩,(r9 aB [[1,2,2],[]] 2 [] cb lR (by decide) (by decide))⟩,tt ⟨(wx (gd aB [[1,2,2],[]] 2) (⟨[[1,2,2],[1,3]],[2],0⟩ : Rs) (qE cb).1 (qE cb).2.1 (by decide) (oA (by decide)) (qE cb).2.2),tt ⟨(mF IH),tt ⟨⟨⟨rfl,oK⟩,⟨rfl,oK⟩,oK⟩,tt ⟨(FL aB [[1,2,2],[]] 0 [(bs [97]),(bs [97])] cb lR (by decide) (by decide) (by decide)),tt ⟨(wx (kL aB [[1,2,2],[]] [(bs [97]),(bs [97])]) (⟨[[1,2,2],[1,3]],[2],0⟩ : Rs) (zc cb).1 (zc cb).2.1 (by decide) (oA (by decide)) (zc cb).2.2),tt ⟨(CJ II),tt ⟨⟨⟨rfl,oK⟩,oK⟩,⟨⟨⟨rfl,oK⟩,⟨rfl,oK⟩,oK⟩,tt ⟨⟨⟨⟨rfl,rfl,oK⟩,⟨rfl,rfl,rfl,oK⟩,oK⟩,(r9 aB [[4],[]] 1 [] cb lR (by decide) (by decide))⟩,tt ⟨⟨⟨⟨rfl,rfl,oK⟩,⟨rfl,rfl,rfl,oK⟩,oK⟩,(r9 aB [[1,2,2],[]] 101 [] cb lR (by decide) (by decide))⟩,tt ⟨(vT JR),tt ⟨(vT JS),tt ⟨(aP [[1,2,2],[1,3]] [[1,2,2],[1,3,1]] (by decide) (oA (by decide))),tt ⟨(bT (by decide)),tt ⟨(aP [[1,2,2],[1,3,1]] [[1,2,2],[1,3]] (by decide) (oA (by decide))),tt ⟨(mT (by decide)),tt ⟨⟨⟨rfl,oK⟩,⟨rfl,oK⟩,⟨rfl,oK⟩,oK⟩,⟨⟨⟨rfl,oK⟩,⟨rfl,oK⟩,oK⟩,⟨(pR [[1,2,2],[1,3,1]] [[],[1,3,2]] (by decide) (oA (by decide))),tt ⟨(bT (by decide)),tt ⟨(pR [[1,2,2],[1,3,1]] [[1,2,2],[1,3]] (by decide) (oA (by decide))),tt ⟨?_,oK⟩⟩⟩⟩⟩⟩⟩⟩⟩⟩⟩⟩⟩⟩⟩⟩⟩⟩⟩⟩⟩⟩⟩⟩⟩⟩⟩⟩⟩⟩⟩⟩⟩⟩⟩⟩⟩
 decide
end Go.Proofs.Ytckgpflobhpnpaa
