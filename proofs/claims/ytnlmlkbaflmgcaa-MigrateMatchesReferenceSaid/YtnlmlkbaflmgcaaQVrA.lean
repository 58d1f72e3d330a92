/-
  The reference of package bits, at valid operations.
-/
import Derived.WalkKit
import Derived.Test.YtnlmlkbaflmgcaaQBitT
namespace Go.Proofs.Ytnlmlkbaflmgcaa
open Go.RowKit
set_option linter.unusedVariables false
set_option linter.unusedSimpArgs false
set_option maxRecDepth 100000
abbrev dm (n : Int) : Ct := ⟨106,[(i6 n)],false,(dB (aI n))⟩
theorem dn (n : Int) : CC (dm n) := by
 refine ap.vc (V := TT 1 (CS (n ≥ 1) (TT 2 ((True∧(decide (n ≥ 1)) = true)∧TT 5 ((decide (n ≤ 8)) = (aI n)∧True))) (TT 2 ((True∧(decide (n ≥ 1)) = false)∧TT 5 (false = (aI n)∧True))))) (.s 1 (n ≥ 1) (.w 1 [(2,.val (dB true))] <| .e) (.w 1 [(2,.val (dB false))] <| .e)) Try.func106 rfl rfl rfl (by kernel_rfl) ?_
 refine tt ⟨fun hs0 => ?_,fun hs0 => ?_⟩
 · refine tt ⟨(vT hs0),tt ⟨?_,oK⟩⟩
   unfold aI; simp; omega
 · refine tt ⟨(vF hs0),tt ⟨?_,oK⟩⟩
   unfold aI; simp; omega
abbrev BX (w : Int) : Ct := ⟨54,[(i6 w)],false,(i6 (aG w))⟩
theorem jE (w : Int) : CC (BX w) := by
 refine ap.vc (V := TT 1 (CS (w < 0) (TT 2 ((True∧(decide (w < 0)) = true)∧TT 5 ((0 : Int) = (aG w)∧True))) (TT 2 ((True∧(decide (w < 0)) = false)∧TT 3 (CD (w > 62) (TT 2 ((0 : Int) = (aG w)∧True)) (TT 1 ((True∧IntKind.u64.wrap w = w)∧SH w∧W6 ((2 ^ w.toNat) - 1)∧TT 2 (((2 ^ w.toNat) - 1) = (aG w)∧True)))))))) (.s 1 (w < 0) (.w 1 [(2,.val (dB true))] <| .e) (.w 1 [(2,.val (dB false))] <| .b 8 (.e) (.w 3 [(1,.val (dI .u64 w)),(2,.val (i6 (2 ^ w.toNat))),(3,.val (i6 ((2 ^ w.toNat) - 1)))] <| .e))) Try.func54 rfl rfl rfl (by kernel_rfl) ?_
 refine tt ⟨fun hs0 => ?_,fun hs0 => ?_⟩
 · refine tt ⟨(vT hs0),tt ⟨?_,oK⟩⟩
   unfold aG; first | exact (if_pos (by omega)).symm | exact (if_neg (by omega)).symm
 · refine tt ⟨(vF hs0),tt (cd (fun hc8 => ?_) (fun hc8 => ?_))⟩
   · refine tt ⟨?_,oK⟩
     unfold aG; first | exact (if_pos (by omega)).symm | exact (if_neg (by omega)).symm
   · refine tt ⟨⟨oK,CP rfl om om⟩,⟨sh,⟨(w6 (by have := mM (n := w.toNat) (by omega); omega) (by have := mM (n := w.toNat) (by omega); omega)),tt ⟨?_,oK⟩⟩⟩⟩
     unfold aG; first | exact (if_pos (by omega)).symm | exact (if_neg (by omega)).symm
abbrev EM (b : Bool) : Ct := ⟨109,[(dB b)],false,(i6 (if b = true then 1 else 0))⟩
theorem xC (b : Bool) : CC (EM b) := by
 refine ap.vc (V := TT 2 (CB (b) (TT 2 ((1 : Int) = (if b = true then 1 else 0)∧True)) (TT 2 ((0 : Int) = (if b = true then 1 else 0)∧True)))) (.b 3 (.e) (.e)) Try.func109 rfl rfl rfl (by kernel_rfl) ?_
 refine tt ⟨fun hc3 => ?_,fun hc3 => ?_⟩
 · refine tt ⟨?_,oK⟩
   first | exact (if_pos hc3).symm | exact (if_neg (by rw [hc3]; simp)).symm
 · refine tt ⟨?_,oK⟩
   first | exact (if_pos hc3).symm | exact (if_neg (by rw [hc3]; simp)).symm
abbrev iK (ws : List Int) (n : Nat) : Ct := ⟨107,[(LI ws),(i6 (n : Int))],false,(dB true)⟩
abbrev l7 (ws : List Int) (n : Nat) : Lp (Nat) := fB [0,1,5] 0 (fun (i : Nat) => ⟨[(0,(LI ws)),(1,(i6 (n : Int))),(5,(i6 (i : Int)))],[]⟩) (fun (i : Nat) => i ≤ n) (fun (i : Nat) => n - i)
theorem cU (ws : List Int) (n : Nat) (h : ex ws n = true) (hn : n ≤ 3) : CC (iK ws n) := by
 have hl := (a8 h).1
 refine ap.vc (V := TT 5 ((!decide ((ws.length : Int) = (n : Int))) = false∧TT 1 (GO (l7 ws n) 0 (∀ i,(l7 ws n).inv i → TT 3 (CD ((i : Int) < (n : Int)) (TT 2 (IX (i : Int) ws.length∧TT 1 (CC (dm (ws.getD i 0))∧TT 1 ((!(aI (ws.getD i 0))) = false∧TT 1 (W6 ((i + 1 : Nat) : Int)∧TT 1 (AG (l7 ws n) i (i + 1))))))) (CS ((n : Int) < 2) (TT 2 ((True∧(decide ((n : Int) < 2)) = true)∧TT 3 (true = true∧True))) (TT 2 ((True∧(decide ((n : Int) < 2)) = false)∧TT 2 ((True∧(IntKind.wrap .i64 ((n : Int) - 1)) = ((n - 1 : Nat) : Int))∧IX ((n - 1 : Nat) : Int) ws.length∧TT 3 ((True∧(IntKind.wrap .i64 ((n : Int) - 2)) = ((n - 2 : Nat) : Int))∧IX ((n - 2 : Nat) : Int) ws.length∧TT 5 (((ws.getD (n - 1) 0) == (ws.getD (n - 2) 0)) = true∧True))))))))))) (.u 9 (.l (l7 ws n) 0 (fun i => .b 12 (.w 6 [(4,(dm (ws.getD i 0)).O)] <| .u 20 (.w 5 [(1,.val (i6 ((i + 1 : Nat) : Int)))] <| .e)) (.s 8 ((n : Int) < 2) (.w 8 [(2,.val (dB true))] <| .e) (.w 8 [(2,.val (dB false)),(5,.val (i6 ((n - 1 : Nat) : Int))),(10,.val (i6 ((n - 2 : Nat) : Int)))] <| .e))))) Try.func107 rfl rfl rfl (by kernel_rfl) ?_
 refine tt ⟨(KG (by omega)),tt ⟨rfl,(by omega),?_⟩⟩
 intro i hinv
 have hi := hinv
 refine tt (cd (fun hc12 => ?_) (fun hc12 => ?_))
 · refine tt ⟨ix,tt ⟨(dn (ws.getD i 0)),tt ⟨(xK (ci h (by omega))),tt ⟨w6,tt ⟨(i + 1),rfl,(?_ : (i + 1) ≤ n),(?_ : n - (i + 1) < n - i)⟩⟩⟩⟩⟩
   · omega
   · omega
 · refine ⟨fun hs0 => ?_,fun hs0 => ?_⟩
   · exact tt ⟨(vT hs0),tt ⟨rfl,oK⟩⟩
   · refine tt ⟨(vF hs0),tt ⟨⟨oK,(qy (by omega) (by omega) (by omega))⟩,⟨ix,tt ⟨⟨oK,(qy (by omega) (by omega) (by omega))⟩,⟨ix,tt ⟨?_,oK⟩⟩⟩⟩⟩⟩
     have h3 := (a8 h).2.2
     simpa using (h3.resolve_left (by omega))
abbrev EN (op : Int) (ws : List Int) (k w : Int) : Ct := ⟨104,[(i6 op),(LI ws),(.agg [(i6 k),(i6 w)])],false,(.agg [(i6 (cx op ws k w)),(i6 0)])⟩
theorem sE (op : Int) (ws : List Int) (k w : Int) (h : iP op ws k w = true) : CC (EN op ws k w) := by
 have hr := sC h
 have hwl : ws.length ≤ 3 := by
   have h1 := (jU h).1
   have h2 : cH op ≤ 3 := by unfold cH; split <;> (try split) <;> (try split) <;> (try split) <;> omega
   omega
 refine ap.vc (V := TT 2 (((0 ≤ (0 : Int)∧0 < (2 : Int))∧True)∧TT 1 (((0 ≤ (1 : Int)∧1 < (2 : Int))∧True)∧TT 7 (CD (op = 1) (TT 3 ((True∧(decide ((ws.length : Int) = 0)) = true)∧TT 1 (CC (dm w)∧TT 1 ((True∧(aI w) = true)∧TT 3 ((True∧(decide (k ≥ 0)) = true)∧TT 2 (CC (BX w)∧TT 2 ((decide (k ≤ (aG w))) = true∧TT 3 (CC (dm w)∧TT 1 ((!(aI w)) = false∧TT 4 (((w = (cx op ws k w)∧(0 : Int) = 0∧True))∧((True∧True∧True)))))))))))) (TT 2 (CD (op = 2) (TT 1 (CC (iK ws 1)∧TT 1 (IX 0 ws.length∧TT 3 (CC (dm (ws.getD 0 0))∧TT 1 ((!(aI (ws.getD 0 0))) = false∧TT 4 ((((ws.getD 0 0) = (cx op ws k w)∧(0 : Int) = 0∧True))∧((True∧True∧True)))))))) (TT 2 (CD (op = 3) ((decide (op = 3)) = true∧TT 1 (CC (iK ws 2)∧TT 1 (IX 0 ws.length∧TT 3 (CC (dm (ws.getD 0 0))∧TT 1 ((!(aI (ws.getD 0 0))) = false∧TT 4 ((((ws.getD 0 0) = (cx op ws k w)∧(0 : Int) = 0∧True))∧((True∧True∧True)))))))) (TT 2 (CD (op = 4) ((decide (op = 4)) = true∧TT 1 (CC (iK ws 2)∧TT 1 (IX 0 ws.length∧TT 3 (CC (dm (ws.getD 0 0))∧TT 1 ((!(aI (ws.getD 0 0))) = false∧TT 4 ((((ws.getD 0 0) = (cx op ws k w)∧(0 : Int) = 0∧True))∧((True∧True∧True)))))))) (TT 2 (CD (op = 5) ((decide (op = 5)) = true∧TT 1 (CC (iK ws 2)∧TT 1 (IX 0 ws.length∧TT 3 (CC (dm (ws.getD 0 0))∧TT 1 ((!(aI (ws.getD 0 0))) = false∧TT 4 ((((ws.getD 0 0) = (cx op ws k w)∧(0 : Int) = 0∧True))∧((True∧True∧True)))))))) (TT 2 (CD (op = 6) ((decide (op = 6)) = true∧TT 1 (CC (iK ws 2)∧TT 1 (IX 0 ws.length∧TT 3 (CC (dm (ws.getD 0 0))∧TT 1 ((!(aI (ws.getD 0 0))) = false∧TT 4 ((((ws.getD 0 0) = (cx op ws k w)∧(0 : Int) = 0∧True))∧((True∧True∧True)))))))) (TT 2 (CD (op = 7) (TT 1 (CC (iK ws 2)∧TT 1 (IX 0 ws.length∧TT 3 (CC (dm (ws.getD 0 0))∧TT 1 ((!(aI (ws.getD 0 0))) = false∧TT 4 ((((ws.getD 0 0) = (cx op ws k w)∧(0 : Int) = 0∧True))∧((True∧True∧True)))))))) (TT 2 (CD (op = 8) ((decide (op = 8)) = true∧TT 1 (CC (iK ws 2)∧TT 2 (CC (dm 1)∧TT 1 ((!(aI 1)) = false∧TT 4 ((((1 : Int) = (cx op ws k w)∧(0 : Int) = 0∧True))∧((True∧True∧True))))))) (TT 2 (CD (op = 9) (TT 1 (CC (iK ws 2)∧TT 2 (CC (dm 1)∧TT 1 ((!(aI 1)) = false∧TT 4 ((((1 : Int) = (cx op ws k w)∧(0 : Int) = 0∧True))∧((True∧True∧True))))))) (TT 2 (CD (op = 10) (TT 1 (CC (iK ws 3)∧TT 2 (IX 0 ws.length∧TT 3 ((decide ((ws.getD 0 0) = 1)) = true∧TT 1 (IX 1 ws.length∧TT 3 (CC (dm (ws.getD 1 0))∧TT 1 ((!(aI (ws.getD 1 0))) = false∧TT 4 ((((ws.getD 1 0) = (cx op ws k w)∧(0 : Int) = 0∧True))∧((True∧True∧True)))))))))) (TT 2 (CD (op = 11) (TT 3 ((True∧(decide ((ws.length : Int) = 2)) = true)∧TT 1 (IX 0 ws.length∧TT 1 (CC (dm (ws.getD 0 0))∧TT 1 ((True∧(aI (ws.getD 0 0)) = true)∧TT 1 (IX 1 ws.length∧TT 1 (CC (dm (ws.getD 1 0))∧TT 1 ((aI (ws.getD 1 0)) = true∧TT 1 (IX 0 ws.length∧TT 2 (IX 1 ws.length∧TT 1 (W6 ((ws.getD 0 0) + (ws.getD 1 0))∧TT 2 (CC (dm ((ws.getD 0 0) + (ws.getD 1 0)))∧TT 1 ((!(aI ((ws.getD 0 0) + (ws.getD 1 0)))) = false∧TT 4 (((((ws.getD 0 0) + (ws.getD 1 0)) = (cx op ws k w)∧(0 : Int) = 0∧True))∧((True∧True∧True)))))))))))))))) (TT 2 (CD (op = 12) (TT 1 (CC (iK ws 1)∧TT 2 (CC (dm w)∧TT 1 ((True∧(aI w) = true)∧TT 3 ((True∧(decide (k ≥ 0)) = true)∧TT 2 (IX 0 ws.length∧TT 2 (W6 ((ws.getD 0 0) - w)∧TT 2 ((decide (k ≤ ((ws.getD 0 0) - w))) = true∧TT 3 (CC (dm w)∧TT 1 ((!(aI w)) = false∧TT 4 (((w = (cx op ws k w)∧(0 : Int) = 0∧True))∧((True∧True∧True))))))))))))) (TT 2 ((decide (op = 13)) = true∧TT 1 (CC (iK ws 1)∧TT 3 (IX 0 ws.length∧TT 3 ((decide (w ≥ (ws.getD 0 0))) = true∧TT 3 (CC (dm w)∧TT 1 ((!(aI w)) = false∧TT 4 (((w = (cx op ws k w)∧(0 : Int) = 0∧True))∧((True∧True∧True)))))))))))))))))))))))))))))))))))) (.b 15 (.w 4 [(3,.val (dB true)),(5,(dm w).O),(7,.val (dB true)),(11,.val (dB true)),(14,(BX w).O)] <| .t 33 (.w 32 [(1,(dm w).O)] <| .u 131 (.e))) (.b 35 (.w 7 [(1,(iK ws 1).O)] <| .w 32 [(1,(dm (ws.getD 0 0)).O)] <| .u 131 (.e)) (.b 42 (.t 42 (.w 14 [(1,(iK ws 2).O)] <| .w 32 [(1,(dm (ws.getD 0 0)).O)] <| .u 131 (.e))) (.b 42 (.t 42 (.w 14 [(1,(iK ws 2).O)] <| .w 32 [(1,(dm (ws.getD 0 0)).O)] <| .u 131 (.e))) (.b 42 (.t 42 (.w 14 [(1,(iK ws 2).O)] <| .w 32 [(1,(dm (ws.getD 0 0)).O)] <| .u 131 (.e))) (.b 42 (.t 42 (.w 14 [(1,(iK ws 2).O)] <| .w 32 [(1,(dm (ws.getD 0 0)).O)] <| .u 131 (.e))) (.b 42 (.w 14 [(1,(iK ws 2).O)] <| .w 32 [(1,(dm (ws.getD 0 0)).O)] <| .u 131 (.e)) (.b 53 (.t 53 (.w 18 [(1,(iK ws 2).O)] <| .w 32 [(1,(dm 1).O)] <| .u 131 (.e))) (.b 53 (.w 18 [(1,(iK ws 2).O)] <| .w 32 [(1,(dm 1).O)] <| .u 131 (.e)) (.b 58 (.w 21 [(1,(iK ws 3).O)] <| .t 67 (.w 32 [(1,(dm (ws.getD 1 0)).O)] <| .u 131 (.e))) (.b 71 (.w 24 [(3,.val (dB true)),(7,(dm (ws.getD 0 0)).O),(9,.val (dB true)),(13,(dm (ws.getD 1 0)).O)] <| .t 87 (.w 25 [(6,.val (i6 ((ws.getD 0 0) + (ws.getD 1 0))))] <| .w 32 [(1,(dm ((ws.getD 0 0) + (ws.getD 1 0))).O)] <| .u 131 (.e))) (.b 95 (.w 27 [(1,(iK ws 1).O),(4,(dm w).O),(6,.val (dB true)),(10,.val (dB true)),(16,.val (i6 ((ws.getD 0 0) - w)))] <| .t 115 (.w 32 [(1,(dm w).O)] <| .u 131 (.e))) (.t 117 (.w 30 [(1,(iK ws 1).O)] <| .t 127 (.w 32 [(1,(dm w).O)] <| .u 131 (.e)))))))))))))))) Try.func104 rfl rfl rfl (by kernel_rfl) ?_
 refine tt ⟨⟨by omega,oK⟩,tt ⟨⟨by omega,oK⟩,tt (cd (fun hc15 => ?_) (fun hc15 => ?_))⟩⟩
 · obtain ⟨q1,q2,q3,q4⟩ := BV.1 (by rw [hc15] at h; exact h)
   have hv : fc op ws k w = w := (by rw [hc15]; first | done | exact EK q2 q3 q4)
   have hw := (fW h hv).1
   have hfit := q2
   refine tt ⟨(vT (by omega)),tt ⟨(dn w),tt ⟨(bT q2),tt ⟨(vT (by omega)),tt ⟨(jE w),tt ⟨(decide_eq_true (by omega)),tt ⟨(dn w),tt ⟨(xK hfit),tt ⟨⟨?_,rfl,oK⟩,⟨oK,oK,oK⟩⟩⟩⟩⟩⟩⟩⟩⟩⟩
   exact hw
 · refine tt (cd (fun hc35 => ?_) (fun hc35 => ?_))
   · have hq := GD.1 (by rw [hc35] at h; exact h)
     have hv : fc op ws k w = ws.getD 0 0 := (by rw [hc35]; first | done | exact rfl)
     have hw := (fW h hv).1
     have hfit := ci hq (i := 0) (by omega)
     have hl1 := (a8 hq).1
     refine tt ⟨(cU ws 1 hq om),tt ⟨ix,tt ⟨(dn (ws.getD 0 0)),tt ⟨(xK hfit),tt ⟨⟨?_,rfl,oK⟩,⟨oK,oK,oK⟩⟩⟩⟩⟩⟩
     exact hw
   · refine tt (cd (fun hc42 => ?_) (fun hc42 => ?_))
     · have hq := (gg (by omega)).1 (h)
       have hv : fc op ws k w = ws.getD 0 0 := (by first | done | exact oM (by omega) hq)
       have hw := (fW h hv).1
       have hfit := ci hq (i := 0) (by omega)
       have hl1 := (a8 hq).1
       refine ⟨(decide_eq_true hc42),tt ⟨(cU ws 2 hq om),tt ⟨ix,tt ⟨(dn (ws.getD 0 0)),tt ⟨(xK hfit),tt ⟨⟨?_,rfl,oK⟩,⟨oK,oK,oK⟩⟩⟩⟩⟩⟩⟩
       exact hw
     · refine tt (cd (fun hc42 => ?_) (fun hc42 => ?_))
       · have hq := (gg (by omega)).1 (h)
         have hv : fc op ws k w = ws.getD 0 0 := (by first | done | exact oM (by omega) hq)
         have hw := (fW h hv).1
         have hfit := ci hq (i := 0) (by omega)
         have hl1 := (a8 hq).1
         refine ⟨(decide_eq_true hc42),tt ⟨(cU ws 2 hq om),tt ⟨ix,tt ⟨(dn (ws.getD 0 0)),tt ⟨(xK hfit),tt ⟨⟨?_,rfl,oK⟩,⟨oK,oK,oK⟩⟩⟩⟩⟩⟩⟩
         exact hw
       · refine tt (cd (fun hc42 => ?_) (fun hc42 => ?_))
         · have hq := (gg (by omega)).1 (h)
           have hv : fc op ws k w = ws.getD 0 0 := (by first | done | exact oM (by omega) hq)
           have hw := (fW h hv).1
           have hfit := ci hq (i := 0) (by omega)
           have hl1 := (a8 hq).1
           refine ⟨(decide_eq_true hc42),tt ⟨(cU ws 2 hq om),tt ⟨ix,tt ⟨(dn (ws.getD 0 0)),tt ⟨(xK hfit),tt ⟨⟨?_,rfl,oK⟩,⟨oK,oK,oK⟩⟩⟩⟩⟩⟩⟩
           exact hw
         · refine tt (cd (fun hc42 => ?_) (fun hc42 => ?_))
           · have hq := (gg (by omega)).1 (h)
             have hv : fc op ws k w = ws.getD 0 0 := (by first | done | exact oM (by omega) hq)
             have hw := (fW h hv).1
             have hfit := ci hq (i := 0) (by omega)
             have hl1 := (a8 hq).1
             refine ⟨(decide_eq_true hc42),tt ⟨(cU ws 2 hq om),tt ⟨ix,tt ⟨(dn (ws.getD 0 0)),tt ⟨(xK hfit),tt ⟨⟨?_,rfl,oK⟩,⟨oK,oK,oK⟩⟩⟩⟩⟩⟩⟩
             exact hw
           · refine tt (cd (fun hc42 => ?_) (fun hc42 => ?_))
             · have hq := (gg (by omega)).1 (h)
               have hv : fc op ws k w = ws.getD 0 0 := (by first | done | exact oM (by omega) hq)
               have hw := (fW h hv).1
               have hfit := ci hq (i := 0) (by omega)
               have hl1 := (a8 hq).1
               refine tt ⟨(cU ws 2 hq om),tt ⟨ix,tt ⟨(dn (ws.getD 0 0)),tt ⟨(xK hfit),tt ⟨⟨?_,rfl,oK⟩,⟨oK,oK,oK⟩⟩⟩⟩⟩⟩
               exact hw
             · refine tt (cd (fun hc53 => ?_) (fun hc53 => ?_))
               · have hq := (qO (by omega)).1 (h)
                 have hv : fc op ws k w = 1 := (by first | done | exact v5 (by omega) hq)
                 have hw := (fW h hv).1
                 have hfit := (by decide : aI 1 = true)
                 have hl1 := (a8 hq).1
                 refine ⟨(decide_eq_true hc53),tt ⟨(cU ws 2 hq om),tt ⟨(dn 1),tt ⟨(xK hfit),tt ⟨⟨?_,rfl,oK⟩,⟨oK,oK,oK⟩⟩⟩⟩⟩⟩
                 exact hw
               · refine tt (cd (fun hc53 => ?_) (fun hc53 => ?_))
                 · have hq := (qO (by omega)).1 (h)
                   have hv : fc op ws k w = 1 := (by first | done | exact v5 (by omega) hq)
                   have hw := (fW h hv).1
                   have hfit := (by decide : aI 1 = true)
                   have hl1 := (a8 hq).1
                   refine tt ⟨(cU ws 2 hq om),tt ⟨(dn 1),tt ⟨(xK hfit),tt ⟨⟨?_,rfl,oK⟩,⟨oK,oK,oK⟩⟩⟩⟩⟩
                   exact hw
                 · refine tt (cd (fun hc58 => ?_) (fun hc58 => ?_))
                   · obtain ⟨hq,q2⟩ := GE.1 (by rw [hc58] at h; exact h)
                     have hv : fc op ws k w = ws.getD 1 0 := (by rw [hc58]; first | done | exact AO hq q2)
                     have hw := (fW h hv).1
                     have hfit := ci hq (i := 1) (by omega)
                     have hl1 := (a8 hq).1
                     refine tt ⟨(cU ws 3 hq om),tt ⟨ix,tt ⟨(decide_eq_true (by omega)),tt ⟨ix,tt ⟨(dn (ws.getD 1 0)),tt ⟨(xK hfit),tt ⟨⟨?_,rfl,oK⟩,⟨oK,oK,oK⟩⟩⟩⟩⟩⟩⟩⟩
                     exact hw
                   · refine tt (cd (fun hc71 => ?_) (fun hc71 => ?_))
                     · obtain ⟨q1,q2,q3,q4⟩ := GF.1 (by rw [hc71] at h; exact h)
                       have hv : fc op ws k w = ws.getD 0 0 + ws.getD 1 0 := (by rw [hc71]; first | done | exact rfl)
                       have hw := (fW h hv).1
                       have hfit := q4
                       have f0 := aQ.1 q2; have f1 := aQ.1 q3
                       refine tt ⟨(vT (by omega)),tt ⟨ix,tt ⟨(dn (ws.getD 0 0)),tt ⟨(bT q2),tt ⟨ix,tt ⟨(dn (ws.getD 1 0)),tt ⟨(LZ q3),tt ⟨ix,tt ⟨ix,tt ⟨w6,tt ⟨(dn ((ws.getD 0 0) + (ws.getD 1 0))),tt ⟨(xK hfit),tt ⟨⟨?_,rfl,oK⟩,⟨oK,oK,oK⟩⟩⟩⟩⟩⟩⟩⟩⟩⟩⟩⟩⟩⟩
                       exact hw
                     · refine tt (cd (fun hc95 => ?_) (fun hc95 => ?_))
                       · obtain ⟨hq,q2,q3,q4⟩ := BW.1 (by rw [hc95] at h; exact h)
                         have hv : fc op ws k w = w := (by rw [hc95]; first | done | exact uw q2 q3 q4)
                         have hw := (fW h hv).1
                         have hfit := q2
                         have hl1 := (a8 hq).1
                         have f0 := aQ.1 (ci hq (i := 0) (by omega)); have f1 := aQ.1 q2
                         refine tt ⟨(cU ws 1 hq om),tt ⟨(dn w),tt ⟨(bT q2),tt ⟨(vT (by omega)),tt ⟨ix,tt ⟨w6,tt ⟨(decide_eq_true (by omega)),tt ⟨(dn w),tt ⟨(xK hfit),tt ⟨⟨?_,rfl,oK⟩,⟨oK,oK,oK⟩⟩⟩⟩⟩⟩⟩⟩⟩⟩⟩
                         exact hw
                       · refine tt ⟨(decide_eq_true (by omega)),?_⟩
                         have hc117 : op = 13 := by
                           rcases hr with g | g | g | g | g | g | g | g | g | g | g | g | g <;> first | exact g | contradiction
                         obtain ⟨hq,q2,q3⟩ := GG.1 (by rw [hc117] at h; exact h)
                         have hv : fc op ws k w = w := (by rw [hc117]; first | done | exact AP q2)
                         have hw := (fW h hv).1
                         have hfit := q3
                         have hl1 := (a8 hq).1
                         refine tt ⟨(cU ws 1 hq om),tt ⟨ix,tt ⟨(decide_eq_true (by omega)),tt ⟨(dn w),tt ⟨(xK hfit),tt ⟨⟨?_,rfl,oK⟩,⟨oK,oK,oK⟩⟩⟩⟩⟩⟩⟩
                         exact hw
abbrev EO (op : Int) (ws xs : List Int) (k w w1 : Int) : Ct := ⟨108,[(i6 op),(.agg [(i6 (ws.getD 0 0)),(i6 w1)]),(LI xs)],false,(i6 (wa op ws xs k w))⟩
set_option maxHeartbeats 1600000 in
theorem xD (op : Int) (ws xs : List Int) (k w w1 : Int) (h : iP op ws k w = true) (hx : xs.length = ws.length) (hin : Bn ws xs = true) (hn : op ≠ 1∧op ≠ 12∧op ≠ 13) (hw : op = 11 → w1 = ws.getD 1 0) : CC (EO op ws xs k w w1) := by
 have hr := sC h
 obtain ⟨hl,hf,-⟩ := jU h
 have f0 : 0 < ws.length → 1 ≤ ws.getD 0 0∧ws.getD 0 0 ≤ 8 := fun h => dX hf h
 have f1 : 1 < ws.length → 1 ≤ ws.getD 1 0∧ws.getD 1 0 ≤ 8 := fun h => dX hf h
 have f2 : 2 < ws.length → 1 ≤ ws.getD 2 0∧ws.getD 2 0 ≤ 8 := fun h => dX hf h
 have a0 : 0 < ws.length → 0 ≤ xs.getD 0 0∧xs.getD 0 0 ≤ aG (ws.getD 0 0) := fun h => ij hin (by omega)
 have a1 : 1 < ws.length → 0 ≤ xs.getD 1 0∧xs.getD 1 0 ≤ aG (ws.getD 1 0) := fun h => ij hin (by omega)
 have a2 : 2 < ws.length → 0 ≤ xs.getD 2 0∧xs.getD 2 0 ≤ aG (ws.getD 2 0) := fun h => ij hin (by omega)
 have m0 : 0 < ws.length → 0 ≤ aG (ws.getD 0 0)∧aG (ws.getD 0 0) ≤ 255 := fun h => cA (by have := f0 h; omega) (f0 h).2
 have m1 : 1 < ws.length → 0 ≤ aG (ws.getD 1 0)∧aG (ws.getD 1 0) ≤ 255 := fun h => cA (by have := f1 h; omega) (f1 h).2
 have m2 : 2 < ws.length → 0 ≤ aG (ws.getD 2 0)∧aG (ws.getD 2 0) ≤ 255 := fun h => cA (by have := f2 h; omega) (f2 h).2
 refine ap.vc (V := TT 2 (((0 ≤ (0 : Int)∧0 < (2 : Int))∧True)∧TT 1 (CC (BX (ws.getD 0 0))∧TT 4 (CD (op = 2) (TT 2 (IX 0 xs.length∧TT 1 (W6 ((aG (ws.getD 0 0)) - (xs.getD 0 0))∧TT 2 (((aG (ws.getD 0 0)) - (xs.getD 0 0)) = (wa op ws xs k w)∧True)))) (TT 2 (CD (op = 3) (TT 1 (IX 0 xs.length∧TT 2 (IX 1 xs.length∧TT 1 ((True∧(IntKind.wrap .i64 (BitVec.ofInt (IntKind.i64).bits (xs.getD 0 0) &&& BitVec.ofInt (IntKind.i64).bits (xs.getD 1 0)).toNat) = (((xs.getD 0 0).toNat &&& (xs.getD 1 0).toNat : Nat) : Int))∧TT 2 ((((xs.getD 0 0).toNat &&& (xs.getD 1 0).toNat : Nat) : Int) = (wa op ws xs k w)∧True))))) (TT 2 (CD (op = 4) (TT 1 (IX 0 xs.length∧TT 2 (IX 1 xs.length∧TT 1 ((True∧(IntKind.wrap .i64 (BitVec.ofInt (IntKind.i64).bits (xs.getD 0 0) ||| BitVec.ofInt (IntKind.i64).bits (xs.getD 1 0)).toNat) = (((xs.getD 0 0).toNat ||| (xs.getD 1 0).toNat : Nat) : Int))∧TT 2 ((((xs.getD 0 0).toNat ||| (xs.getD 1 0).toNat : Nat) : Int) = (wa op ws xs k w)∧True))))) (TT 2 (CD (op = 5) (TT 1 (IX 0 xs.length∧TT 2 (IX 1 xs.length∧TT 1 ((True∧(IntKind.wrap .i64 (BitVec.ofInt (IntKind.i64).bits (xs.getD 0 0) ^^^ BitVec.ofInt (IntKind.i64).bits (xs.getD 1 0)).toNat) = (((xs.getD 0 0).toNat ^^^ (xs.getD 1 0).toNat : Nat) : Int))∧TT 2 ((((xs.getD 0 0).toNat ^^^ (xs.getD 1 0).toNat : Nat) : Int) = (wa op ws xs k w)∧True))))) (TT 2 (CD (op = 6) (TT 1 (IX 0 xs.length∧TT 2 (IX 1 xs.length∧TT 1 (W6 ((xs.getD 0 0) + (xs.getD 1 0))∧TT 1 (W6 ((aG (ws.getD 0 0)) + 1)∧(((aG (ws.getD 0 0)) + 1) ≠ 0∧(Int.tmod ((xs.getD 0 0) + (xs.getD 1 0)) ((aG (ws.getD 0 0)) + 1)) = ((xs.getD 0 0 + xs.getD 1 0) % 2 ^ (ws.getD 0 0).toNat))∧TT 2 (((xs.getD 0 0 + xs.getD 1 0) % 2 ^ (ws.getD 0 0).toNat) = (wa op ws xs k w)∧True)))))) (TT 2 (CD (op = 7) (TT 1 (IX 0 xs.length∧TT 2 (IX 1 xs.length∧TT 1 (W6 ((xs.getD 0 0) - (xs.getD 1 0))∧TT 1 (W6 (((xs.getD 0 0) - (xs.getD 1 0)) + (aG (ws.getD 0 0)))∧W6 ((((xs.getD 0 0) - (xs.getD 1 0)) + (aG (ws.getD 0 0))) + 1)∧TT 1 (W6 ((aG (ws.getD 0 0)) + 1)∧(((aG (ws.getD 0 0)) + 1) ≠ 0∧(Int.tmod ((((xs.getD 0 0) - (xs.getD 1 0)) + (aG (ws.getD 0 0))) + 1) ((aG (ws.getD 0 0)) + 1)) = ((xs.getD 0 0 - xs.getD 1 0) % 2 ^ (ws.getD 0 0).toNat))∧TT 2 (((xs.getD 0 0 - xs.getD 1 0) % 2 ^ (ws.getD 0 0).toNat) = (wa op ws xs k w)∧True))))))) (TT 2 (CD (op = 8) (TT 1 (IX 0 xs.length∧TT 2 (IX 1 xs.length∧TT 2 (CC (EM ((xs.getD 0 0) == (xs.getD 1 0)))∧TT 2 ((if ((xs.getD 0 0) == (xs.getD 1 0)) = true then 1 else 0) = (wa op ws xs k w)∧True))))) (TT 2 (CD (op = 9) (TT 1 (IX 0 xs.length∧TT 2 (IX 1 xs.length∧TT 2 (CC (EM (decide ((xs.getD 0 0) < (xs.getD 1 0))))∧TT 2 ((if (decide ((xs.getD 0 0) < (xs.getD 1 0))) = true then 1 else 0) = (wa op ws xs k w)∧True))))) (TT 2 (CD (op = 10) (TT 1 (IX 0 xs.length∧TT 2 (CD ((xs.getD 0 0) = 1) (TT 1 (IX 1 xs.length∧TT 3 ((xs.getD 1 0) = (wa op ws xs k w)∧True))) (TT 1 (IX 2 xs.length∧TT 3 ((xs.getD 2 0) = (wa op ws xs k w)∧True)))))) (TT 1 (IX 0 xs.length∧TT 1 (((0 ≤ (1 : Int)∧1 < (2 : Int))∧True)∧TT 1 ((True∧(IntKind.wrap .u64 w1) = (ws.getD 1 0))∧(0 ≤ (ws.getD 1 0)∧(IntKind.wrap .i64 ((xs.getD 0 0) * 2 ^ min ((ws.getD 1 0).toNat) 64)) = (((xs.getD 0 0).toNat * 2 ^ (ws.getD 1 0).toNat : Nat) : Int))∧TT 1 (IX 1 xs.length∧TT 1 ((True∧(IntKind.wrap .i64 (BitVec.ofInt (IntKind.i64).bits (((xs.getD 0 0).toNat * 2 ^ (ws.getD 1 0).toNat : Nat) : Int) ||| BitVec.ofInt (IntKind.i64).bits (xs.getD 1 0)).toNat) = (((xs.getD 0 0).toNat * 2 ^ (ws.getD 1 0).toNat ||| (xs.getD 1 0).toNat : Nat) : Int))∧TT 2 ((((xs.getD 0 0).toNat * 2 ^ (ws.getD 1 0).toNat ||| (xs.getD 1 0).toNat : Nat) : Int) = (wa op ws xs k w)∧True))))))))))))))))))))))))))) (.w 1 [(2,(BX (ws.getD 0 0)).O)] <| .b 12 (.w 4 [(4,.val (i6 ((aG (ws.getD 0 0)) - (xs.getD 0 0))))] <| .e) (.b 19 (.w 6 [(6,.val (i6 (((xs.getD 0 0).toNat &&& (xs.getD 1 0).toNat : Nat) : Int)))] <| .e) (.b 28 (.w 8 [(6,.val (i6 (((xs.getD 0 0).toNat ||| (xs.getD 1 0).toNat : Nat) : Int)))] <| .e) (.b 37 (.w 10 [(6,.val (i6 (((xs.getD 0 0).toNat ^^^ (xs.getD 1 0).toNat : Nat) : Int)))] <| .e) (.b 46 (.w 12 [(6,.val (i6 ((xs.getD 0 0) + (xs.getD 1 0)))),(8,.val (i6 ((aG (ws.getD 0 0)) + 1))),(9,.val (i6 ((xs.getD 0 0 + xs.getD 1 0) % 2 ^ (ws.getD 0 0).toNat)))] <| .e) (.b 58 (.w 14 [(6,.val (i6 ((xs.getD 0 0) - (xs.getD 1 0)))),(8,.val (i6 (((xs.getD 0 0) - (xs.getD 1 0)) + (aG (ws.getD 0 0))))),(9,.val (i6 ((((xs.getD 0 0) - (xs.getD 1 0)) + (aG (ws.getD 0 0))) + 1))),(11,.val (i6 ((aG (ws.getD 0 0)) + 1))),(12,.val (i6 ((xs.getD 0 0 - xs.getD 1 0) % 2 ^ (ws.getD 0 0).toNat)))] <| .e) (.b 73 (.w 16 [(7,(EM ((xs.getD 0 0) == (xs.getD 1 0))).O)] <| .e) (.b 83 (.w 18 [(7,(EM (decide ((xs.getD 0 0) < (xs.getD 1 0)))).O)] <| .e) (.b 93 (.b 98 (.e) (.e)) (.w 23 [(5,.val (dI .u64 (ws.getD 1 0))),(6,.val (i6 (((xs.getD 0 0).toNat * 2 ^ (ws.getD 1 0).toNat : Nat) : Int))),(10,.val (i6 (((xs.getD 0 0).toNat * 2 ^ (ws.getD 1 0).toNat ||| (xs.getD 1 0).toNat : Nat) : Int)))] <| .e)))))))))) Try.func108 rfl rfl rfl (by kernel_rfl) ?_
 refine tt ⟨⟨by omega,oK⟩,tt ⟨(jE (ws.getD 0 0)),tt (cd (fun hc12 => ?_) (fun hc12 => ?_))⟩⟩
 · have hl0 : (ws.length : Int) = 1 := by rw [hc12] at hl; exact hl
   have b0 := f0 (by omega)
   have c0 := a0 (by omega)
   have d0 := m0 (by omega)
   refine tt ⟨ix,tt ⟨w6,tt ⟨?_,oK⟩⟩⟩
   rw [hc12]; exact GH (by omega) c0
 · refine tt (cd (fun hc19 => ?_) (fun hc19 => ?_))
   · have hl0 : (ws.length : Int) = 2 := by rw [hc19] at hl; exact hl
     have b0 := f0 (by omega)
     have c0 := a0 (by omega)
     have d0 := m0 (by omega)
     have b1 := f1 (by omega)
     have c1 := a1 (by omega)
     have d1 := m1 (by omega)
     have hsame := fV ((gg (by omega)).1 h)
     have hw1 : aG (ws.getD 1 0) = aG (ws.getD 0 0) := by rw [hsame]
     refine tt ⟨ix,tt ⟨ix,tt ⟨⟨oK,(Bp (by omega) (by omega) (by omega) (by omega))⟩,tt ⟨?_,oK⟩⟩⟩⟩
     rw [hc19]; rfl
   · refine tt (cd (fun hc28 => ?_) (fun hc28 => ?_))
     · have hl0 : (ws.length : Int) = 2 := by rw [hc28] at hl; exact hl
       have b0 := f0 (by omega)
       have c0 := a0 (by omega)
       have d0 := m0 (by omega)
       have b1 := f1 (by omega)
       have c1 := a1 (by omega)
       have d1 := m1 (by omega)
       have hsame := fV ((gg (by omega)).1 h)
       have hw1 : aG (ws.getD 1 0) = aG (ws.getD 0 0) := by rw [hsame]
       refine tt ⟨ix,tt ⟨ix,tt ⟨⟨oK,(Da (by omega) (by omega) (by omega) (by omega))⟩,tt ⟨?_,oK⟩⟩⟩⟩
       rw [hc28]; rfl
     · refine tt (cd (fun hc37 => ?_) (fun hc37 => ?_))
       · have hl0 : (ws.length : Int) = 2 := by rw [hc37] at hl; exact hl
         have b0 := f0 (by omega)
         have c0 := a0 (by omega)
         have d0 := m0 (by omega)
         have b1 := f1 (by omega)
         have c1 := a1 (by omega)
         have d1 := m1 (by omega)
         have hsame := fV ((gg (by omega)).1 h)
         have hw1 : aG (ws.getD 1 0) = aG (ws.getD 0 0) := by rw [hsame]
         refine tt ⟨ix,tt ⟨ix,tt ⟨⟨oK,(Bo (by omega) (by omega) (by omega) (by omega))⟩,tt ⟨?_,oK⟩⟩⟩⟩
         rw [hc37]; rfl
       · refine tt (cd (fun hc46 => ?_) (fun hc46 => ?_))
         · have hl0 : (ws.length : Int) = 2 := by rw [hc46] at hl; exact hl
           have b0 := f0 (by omega)
           have c0 := a0 (by omega)
           have d0 := m0 (by omega)
           have b1 := f1 (by omega)
           have c1 := a1 (by omega)
           have d1 := m1 (by omega)
           have hsame := fV ((gg (by omega)).1 h)
           have hw1 : aG (ws.getD 1 0) = aG (ws.getD 0 0) := by rw [hsame]
           refine tt ⟨ix,tt ⟨ix,tt ⟨w6,tt ⟨w6,⟨⟨om,(xB (by omega) (by omega))⟩,tt ⟨?_,oK⟩⟩⟩⟩⟩⟩
           rw [hc46]; rfl
         · refine tt (cd (fun hc58 => ?_) (fun hc58 => ?_))
           · have hl0 : (ws.length : Int) = 2 := by rw [hc58] at hl; exact hl
             have b0 := f0 (by omega)
             have c0 := a0 (by omega)
             have d0 := m0 (by omega)
             have b1 := f1 (by omega)
             have c1 := a1 (by omega)
             have d1 := m1 (by omega)
             have hsame := fV ((gg (by omega)).1 h)
             have hw1 : aG (ws.getD 1 0) = aG (ws.getD 0 0) := by rw [hsame]
             refine tt ⟨ix,tt ⟨ix,tt ⟨w6,tt ⟨w6,⟨w6,tt ⟨w6,⟨⟨om,(GI (by omega) (by omega))⟩,tt ⟨?_,oK⟩⟩⟩⟩⟩⟩⟩⟩
             rw [hc58]; rfl
           · refine tt (cd (fun hc73 => ?_) (fun hc73 => ?_))
             · have hl0 : (ws.length : Int) = 2 := by rw [hc73] at hl; exact hl
               have b0 := f0 (by omega)
               have c0 := a0 (by omega)
               have d0 := m0 (by omega)
               have b1 := f1 (by omega)
               have c1 := a1 (by omega)
               have d1 := m1 (by omega)
               have hsame := fV ((qO (by omega)).1 h)
               have hw1 : aG (ws.getD 1 0) = aG (ws.getD 0 0) := by rw [hsame]
               refine tt ⟨ix,tt ⟨ix,tt ⟨(xC ((xs.getD 0 0) == (xs.getD 1 0))),tt ⟨?_,oK⟩⟩⟩⟩
               rw [hc73]
               show _ = (if xs.getD 0 0 = xs.getD 1 0 then (1 : Int) else 0)
               by_cases hq : xs.getD 0 0 = xs.getD 1 0
               · rw [if_pos hq,if_pos (by simpa using hq)]
               · rw [if_neg hq,if_neg (by simpa using hq)]
             · refine tt (cd (fun hc83 => ?_) (fun hc83 => ?_))
               · have hl0 : (ws.length : Int) = 2 := by rw [hc83] at hl; exact hl
                 have b0 := f0 (by omega)
                 have c0 := a0 (by omega)
                 have d0 := m0 (by omega)
                 have b1 := f1 (by omega)
                 have c1 := a1 (by omega)
                 have d1 := m1 (by omega)
                 have hsame := fV ((qO (by omega)).1 h)
                 have hw1 : aG (ws.getD 1 0) = aG (ws.getD 0 0) := by rw [hsame]
                 refine tt ⟨ix,tt ⟨ix,tt ⟨(xC (decide ((xs.getD 0 0) < (xs.getD 1 0)))),tt ⟨?_,oK⟩⟩⟩⟩
                 rw [hc83]
                 show _ = (if xs.getD 0 0 < xs.getD 1 0 then (1 : Int) else 0)
                 by_cases hq : xs.getD 0 0 < xs.getD 1 0
                 · rw [if_pos hq,if_pos (by simpa using hq)]
                 · rw [if_neg hq,if_neg (by simpa using hq)]
               · refine tt (cd (fun hc93 => ?_) (fun hc93 => ?_))
                 · have hl0 : (ws.length : Int) = 3 := by rw [hc93] at hl; exact hl
                   have b0 := f0 (by omega)
                   have c0 := a0 (by omega)
                   have d0 := m0 (by omega)
                   have b1 := f1 (by omega)
                   have c1 := a1 (by omega)
                   have d1 := m1 (by omega)
                   have hone := zH (by rw [hc93] at h; exact h)
                   have hm1 : aG (ws.getD 0 0) = 1 := by rw [hone]; decide
                   refine tt ⟨ix,tt (cd (fun hc98 => ?_) (fun hc98 => ?_))⟩
                   · refine tt ⟨ix,tt ⟨?_,oK⟩⟩
                     rw [hc93]
                     show _ = xs.getD (2 - xs.getD 0 0).toNat 0
                     rw [hc98]
                     rfl
                   · refine tt ⟨ix,tt ⟨?_,oK⟩⟩
                     rw [hc93]
                     show _ = xs.getD (2 - xs.getD 0 0).toNat 0
                     rw [show xs.getD 0 0 = 0 by omega]
                     rfl
                 · have hop : op = 11 := by
                     have hn1 := hn.1; have hn2 := hn.2.1; have hn3 := hn.2.2
                     rcases hr with g | g | g | g | g | g | g | g | g | g | g | g | g <;> first | exact g | contradiction
                   have hl0 : (ws.length : Int) = 2 := by rw [hop] at hl; exact hl
                   have b0 := f0 (by omega)
                   have c0 := a0 (by omega)
                   have d0 := m0 (by omega)
                   have b1 := f1 (by omega)
                   have c1 := a1 (by omega)
                   have d1 := m1 (by omega)
                   have hw1 := hw hop
                   refine tt ⟨ix,tt ⟨⟨by omega,oK⟩,tt ⟨⟨oK,(by rw [hw1]; exact CP rfl (by omega) (by omega))⟩,⟨⟨(by omega),(FA (by omega) (by omega))⟩,tt ⟨ix,tt ⟨⟨oK,(FB (by omega) (by omega) (by omega))⟩,tt ⟨?_,oK⟩⟩⟩⟩⟩⟩⟩
                   rw [hop]; rfl
abbrev IL (op : Int) (ws xs nums : List Int) : Ct := ⟨105,[(i6 op),(LI ws),(.agg [(LI xs),(LI nums)])],false,(.agg [(i6 (ft op ws xs nums)),(i6 0)])⟩
abbrev kt (op : Int) (ws : List Int) (xs : List Int) (nums : List Int) : Lp (Nat) := fB [0,1,6,7,8,10] 19 (fun (i : Nat) => ⟨[(0,(i6 op)),(1,(LI ws)),(6,(.ptr 1 0 0 0)),(7,(LI xs)),(8,(LI nums)),(10,(i6 (i : Int)))],[(.var 190 [(LI xs),(LI nums)]),(.var 187 [(i6 0),(i6 0)]),.dead,.dead,.dead,.dead,.dead,.dead,.dead,.dead,.dead,.dead,.dead,.dead,.dead,.dead,.dead,.dead,(.var 187 [(i6 (cx op ws (nums.getD 0 0) (nums.getD 1 0))),(i6 0)])]⟩) (fun (i : Nat) => i ≤ xs.length) (fun (i : Nat) => xs.length - i)
set_option maxHeartbeats 1600000 in
theorem yU (op : Int) (ws xs nums : List Int) (h : iP op ws (nums.getD 0 0) (nums.getD 1 0) = true) (hx : xs.length = ws.length) (hin : Bn ws xs = true) (hn : nums.length = 2) : CC (IL op ws xs nums) := by
 have hr := sC h
 obtain ⟨hl,hf,-⟩ := jU h
 have hwl : ws.length ≤ 3 := by
   have h2 : cH op ≤ 3 := by unfold cH; split <;> (try split) <;> (try split) <;> (try split) <;> omega
   omega
 have f0 : 0 < ws.length → 1 ≤ ws.getD 0 0∧ws.getD 0 0 ≤ 8 := fun h => dX hf h
 have f1 : 1 < ws.length → 1 ≤ ws.getD 1 0∧ws.getD 1 0 ≤ 8 := fun h => dX hf h
 have f2 : 2 < ws.length → 1 ≤ ws.getD 2 0∧ws.getD 2 0 ≤ 8 := fun h => dX hf h
 have a0 : 0 < ws.length → 0 ≤ xs.getD 0 0∧xs.getD 0 0 ≤ aG (ws.getD 0 0) := fun h => ij hin (by omega)
 have a1 : 1 < ws.length → 0 ≤ xs.getD 1 0∧xs.getD 1 0 ≤ aG (ws.getD 1 0) := fun h => ij hin (by omega)
 have a2 : 2 < ws.length → 0 ≤ xs.getD 2 0∧xs.getD 2 0 ≤ aG (ws.getD 2 0) := fun h => ij hin (by omega)
 have m0 : 0 < ws.length → 0 ≤ aG (ws.getD 0 0)∧aG (ws.getD 0 0) ≤ 255 := fun h => cA (by have := f0 h; omega) (f0 h).2
 have m1 : 1 < ws.length → 0 ≤ aG (ws.getD 1 0)∧aG (ws.getD 1 0) ≤ 255 := fun h => cA (by have := f1 h; omega) (f1 h).2
 have m2 : 2 < ws.length → 0 ≤ aG (ws.getD 2 0)∧aG (ws.getD 2 0) ≤ 255 := fun h => cA (by have := f2 h; omega) (f2 h).2
 refine ap.vc (V := TT 2 (((0 ≤ (0 : Int)∧0 < (2 : Int))∧True)∧TT 1 (((0 ≤ (1 : Int)∧1 < (2 : Int))∧True)∧TT 6 ((True∧(!decide ((nums.length : Int) = 2)) = false)∧TT 6 ((!decide ((xs.length : Int) = (ws.length : Int))) = false∧TT 3 (IX 0 nums.length∧TT 2 (IX 1 nums.length∧TT 2 (CC (EN op ws (nums.getD 0 0) (nums.getD 1 0))∧TT 6 (GO (kt op ws xs nums) 0 (∀ i,(kt op ws xs nums).inv i → TT 4 (CD ((i : Int) < (xs.length : Int)) (TT 2 (IX (i : Int) xs.length∧TT 2 ((True∧(decide ((xs.getD i 0) < 0)) = false)∧TT 2 (IX (i : Int) xs.length∧TT 3 (IX (i : Int) ws.length∧TT 1 (CC (BX (ws.getD i 0))∧TT 2 ((decide ((xs.getD i 0) > (aG (ws.getD i 0)))) = false∧TT 1 (W6 ((i + 1 : Nat) : Int)∧TT 1 (AG (kt op ws xs nums) i (i + 1)))))))))) (TT 3 (CD (op = 1) (TT 1 (IX 0 nums.length∧TT 4 ((((nums.getD 0 0) = (ft op ws xs nums)∧(0 : Int) = 0∧True))∧((True∧True∧True))))) (TT 2 (CD (op = 12) (TT 1 (IX 0 xs.length∧TT 2 (IX 0 nums.length∧TT 1 ((True∧(IntKind.wrap .u64 (nums.getD 0 0)) = (nums.getD 0 0))∧(0 ≤ (nums.getD 0 0)∧(Int.fdiv (xs.getD 0 0) (2 ^ min ((nums.getD 0 0).toNat) 64)) = (xs.getD 0 0 / 2 ^ (nums.getD 0 0).toNat))∧TT 1 (IX 1 nums.length∧TT 1 (CC (BX (nums.getD 1 0))∧(True∧(IntKind.wrap .i64 (BitVec.ofInt (IntKind.i64).bits (xs.getD 0 0 / 2 ^ (nums.getD 0 0).toNat) &&& BitVec.ofInt (IntKind.i64).bits (aG (nums.getD 1 0))).toNat) = ((xs.getD 0 0 / 2 ^ (nums.getD 0 0).toNat) % 2 ^ (nums.getD 1 0).toNat))∧TT 3 (((((xs.getD 0 0 / 2 ^ (nums.getD 0 0).toNat) % 2 ^ (nums.getD 1 0).toNat) = (ft op ws xs nums)∧(0 : Int) = 0∧True))∧((True∧True∧True))))))))) (TT 2 (CD (op = 13) (TT 1 (IX 0 xs.length∧TT 4 ((((xs.getD 0 0) = (ft op ws xs nums)∧(0 : Int) = 0∧True))∧((True∧True∧True))))) (TT 2 (CD (op = 11) (TT 2 (IX 0 ws.length∧TT 2 (IX 1 ws.length∧TT 3 (CC (EO op ws xs (nums.getD 0 0) (nums.getD 1 0) (ws.getD 1 0))∧TT 3 ((((wa op ws xs (nums.getD 0 0) (nums.getD 1 0)) = (ft op ws xs nums)∧(0 : Int) = 0∧True))∧((True∧True∧True))))))) (TT 2 (IX 0 ws.length∧TT 3 (CC (EO op ws xs (nums.getD 0 0) (nums.getD 1 0) 0)∧TT 3 ((((wa op ws xs (nums.getD 0 0) (nums.getD 1 0)) = (ft op ws xs nums)∧(0 : Int) = 0∧True))∧((True∧True∧True))))))))))))))))))))))))) (.w 2 [(3,.val (dB false))] <| .u 24 (.w 4 [(9,(EN op ws (nums.getD 0 0) (nums.getD 1 0)).O)] <| .l (kt op ws xs nums) 0 (fun i => .b 43 (.w 10 [(5,.val (dB false)),(14,(BX (ws.getD i 0)).O)] <| .u 62 (.w 9 [(1,.val (i6 ((i + 1 : Nat) : Int)))] <| .e)) (.b 65 (.e) (.b 71 (.w 16 [(6,.val (dI .u64 (nums.getD 0 0))),(7,.val (i6 (xs.getD 0 0 / 2 ^ (nums.getD 0 0).toNat))),(11,(BX (nums.getD 1 0)).O),(12,.val (i6 ((xs.getD 0 0 / 2 ^ (nums.getD 0 0).toNat) % 2 ^ (nums.getD 1 0).toNat)))] <| .e) (.b 87 (.e) (.b 93 (.w 20 [(9,(EO op ws xs (nums.getD 0 0) (nums.getD 1 0) (ws.getD 1 0)).O)] <| .e) (.w 21 [(6,(EO op ws xs (nums.getD 0 0) (nums.getD 1 0) 0).O)] <| .e)))))))) Try.func105 rfl rfl rfl (by kernel_rfl) ?_
 refine tt ⟨⟨by omega,oK⟩,tt ⟨⟨by omega,oK⟩,tt ⟨(nF (by omega)),tt ⟨(KG (by omega)),tt ⟨ix,tt ⟨ix,tt ⟨(sE op ws (nums.getD 0 0) (nums.getD 1 0) h),tt ⟨rfl,(by omega),?_⟩⟩⟩⟩⟩⟩⟩⟩
 intro i hinv
 have hi := hinv
 refine tt (cd (fun hc43 => ?_) (fun hc43 => ?_))
 · refine tt ⟨ix,tt ⟨(vF (by have := ij hin (i := i) (by omega); omega)),tt ⟨ix,tt ⟨ix,tt ⟨(jE (ws.getD i 0)),tt ⟨(decide_eq_false (by have := ij hin (i := i) (by omega); omega)),tt ⟨w6,tt ⟨(i + 1),rfl,(?_ : (i + 1) ≤ xs.length),(?_ : xs.length - (i + 1) < xs.length - i)⟩⟩⟩⟩⟩⟩⟩⟩
   · omega
   · omega
 · refine tt (cd (fun hc65 => ?_) (fun hc65 => ?_))
   · refine tt ⟨ix,tt ⟨⟨?_,rfl,oK⟩,⟨oK,oK,oK⟩⟩⟩
     rw [(pp hn hx h hin).1,hc65]; rfl
   · refine tt (cd (fun hc71 => ?_) (fun hc71 => ?_))
     · have hl0 : (ws.length : Int) = 1 := by rw [hc71] at hl; exact hl
       have b0 := f0 (by omega)
       have c0 := a0 (by omega)
       have d0 := m0 (by omega)
       have hsk := zI (by rw [hc71] at h; exact h)
       have hwf := aQ.1 hsk.2.2
       refine tt ⟨ix,tt ⟨ix,tt ⟨⟨oK,(CP rfl (by omega) (by omega))⟩,⟨⟨(by omega),(FC hsk.1 (by omega))⟩,tt ⟨ix,tt ⟨(jE (nums.getD 1 0)),⟨⟨oK,(by rw [dM (by omega) (by omega)]; exact kS (by omega))⟩,tt ⟨⟨?_,rfl,oK⟩,⟨oK,oK,oK⟩⟩⟩⟩⟩⟩⟩⟩⟩
       rw [(pp hn hx h hin).1,hc71]; rfl
     · refine tt (cd (fun hc87 => ?_) (fun hc87 => ?_))
       · have hl0 : (ws.length : Int) = 1 := by rw [hc87] at hl; exact hl
         have b0 := f0 (by omega)
         have c0 := a0 (by omega)
         have d0 := m0 (by omega)
         refine tt ⟨ix,tt ⟨⟨?_,rfl,oK⟩,⟨oK,oK,oK⟩⟩⟩
         rw [(pp hn hx h hin).1,hc87]; rfl
       · refine tt (cd (fun hc93 => ?_) (fun hc93 => ?_))
         · have hl0 : (ws.length : Int) = 2 := by rw [hc93] at hl; exact hl
           have b0 := f0 (by omega)
           have c0 := a0 (by omega)
           have d0 := m0 (by omega)
           have b1 := f1 (by omega)
           have c1 := a1 (by omega)
           have d1 := m1 (by omega)
           refine tt ⟨ix,tt ⟨ix,tt ⟨(xD op ws xs (nums.getD 0 0) (nums.getD 1 0) (ws.getD 1 0) h hx hin om om),tt ⟨⟨?_,rfl,oK⟩,⟨oK,oK,oK⟩⟩⟩⟩⟩
           exact (pp hn hx h hin).1.symm
         · have hl0 : 1 ≤ ws.length := by
             have h2 : 1 ≤ cH op := by rcases hr with rfl | rfl | rfl | rfl | rfl | rfl | rfl | rfl | rfl | rfl | rfl | rfl | rfl <;> first | omega | decide
             omega
           refine tt ⟨ix,tt ⟨(xD op ws xs (nums.getD 0 0) (nums.getD 1 0) 0 h hx hin om om),tt ⟨⟨?_,rfl,oK⟩,⟨oK,oK,oK⟩⟩⟩⟩
           exact (pp hn hx h hin).1.symm
end Go.Proofs.Ytnlmlkbaflmgcaa
