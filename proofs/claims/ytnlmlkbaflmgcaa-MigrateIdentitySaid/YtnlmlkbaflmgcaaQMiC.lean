/-
  Package migrate: carried values.
-/
import Derived.Test.YtnlmlkbaflmgcaaQMiB
namespace Go.Proofs.Ytnlmlkbaflmgcaa
open Go.RowKit
set_option linter.unusedVariables false
set_option linter.unusedSimpArgs false
abbrev Am (c : dV) (v : Int) (is : Bool) : List D := [(.agg [(i6 c.first),(i6 c.w),(i6 c.rule.kind),(dS c.rule.src),(i6 c.rule.n)]),(i6 v),(dB is)]
set_option maxRecDepth 100000
abbrev Jw (own : ByteArray) (r : aj) : Ct := ⟨82,[(dS own),(.agg [(i6 r.kind),(dS r.src),(i6 r.n)])],true,(dS (au own r))⟩
theorem An (own : ByteArray) (r : aj) : CC (Jw own r) := by
 refine aq.vc (V := TT 5 (CD (r.kind = 1) (TT 3 (own = (au own r))) (TT 4 (r.src = (au own r))))) (.b 7 (.e) (.e)) Try.func82 rfl rfl rfl (by kernel_rfl) ?_
 refine tt (cd (fun hc7 => ?_) (fun hc7 => ?_))
 · refine tt ?_
   first | exact (if_pos hc7).symm | exact (if_neg hc7).symm
 · refine tt ?_
   first | exact (if_pos hc7).symm | exact (if_neg hc7).symm
abbrev KE (c : dV) (v : Int) (is : Bool) : Ct := ⟨93,(Am c v is),false,(i6 c.first)⟩
theorem FS (c : dV) (v : Int) (is : Bool) : CC (KE c v is) := by
 refine aq.vc (V := TT 6 (c.first = c.first∧True)) (.e) Try.func93 rfl rfl rfl (by kernel_rfl) ?_
 exact tt ⟨rfl,oK⟩
abbrev HQ (c : dV) (v : Int) (is : Bool) : Ct := ⟨94,(Am c v is),false,(i6 (d6 c v is))⟩
theorem yM (c : dV) (v : Int) (is : Bool) : CC (HQ c v is) := by
 refine aq.vc (V := TT 4 (CB (!is) (TT 4 (c.first = (d6 c v is)∧True)) (TT 3 (CC (Jv c.w)∧(True∧(IntKind.wrap .i64 (BitVec.ofInt (IntKind.i64).bits v &&& BitVec.ofInt (IntKind.i64).bits (aC c.w)).toNat) = (kx v c.w))∧TT 2 ((kx v c.w) = (d6 c v is)∧True))))) (.b 8 (.e) (.w 3 [(3,(Jv c.w).O),(4,.val (i6 (kx v c.w)))] <| .e)) Try.func94 rfl rfl rfl (by kernel_rfl) ?_
 refine tt ⟨fun hc8 => ?_,fun hc8 => ?_⟩
 · refine tt ⟨?_,oK⟩
   unfold d6; first | (rw [if_neg (by simp_all)]; done) | (rw [if_pos (by simp_all)])
 · refine tt ⟨(Ak c.w),⟨⟨oK,DE⟩,tt ⟨?_,oK⟩⟩⟩
   unfold d6; first | (rw [if_neg (by simp_all)]; done) | (rw [if_pos (by simp_all)])
abbrev KF (c : dV) (v : Int) (is : Bool) : Ct := ⟨95,(Am c v is),false,(i6 (ot c v is))⟩
theorem HR (c : dV) (v : Int) (is : Bool) : CC (KF c v is) := by
 refine aq.vc (V := TT 5 (CC (HQ c v is)∧TT 3 ((True∧(IntKind.wrap .i64 ((d6 c v is) + c.rule.n)) = (IntKind.wrap .i64 (d6 c v is + c.rule.n)))∧TT 2 (CC (Jv c.w)∧(True∧(IntKind.wrap .i64 (BitVec.ofInt (IntKind.i64).bits (IntKind.wrap .i64 (d6 c v is + c.rule.n)) &&& BitVec.ofInt (IntKind.i64).bits (aC c.w)).toNat) = (ot c v is))∧TT 2 ((ot c v is) = (ot c v is)∧True))))) (.w 1 [(3,(HQ c v is).O),(7,.val (i6 (IntKind.wrap .i64 (d6 c v is + c.rule.n)))),(10,(Jv c.w).O),(11,.val (i6 (ot c v is)))] <| .e) Try.func95 rfl rfl rfl (by kernel_rfl) ?_
 exact tt ⟨(yM c v is),tt ⟨⟨oK,(by rfl)⟩,tt ⟨(Ak c.w),⟨⟨oK,(by rw [DE,DG]; rfl)⟩,tt ⟨rfl,oK⟩⟩⟩⟩⟩
abbrev ni (c : dV) (v : Int) (is : Bool) : Ct := ⟨83,(Am c v is),false,(i6 (b5 c v is))⟩
theorem Jx (c : dV) (v : Int) (is : Bool) (hk : c.rule.kind = 0) : CC (ni c v is) := by
 refine aq.vc (V := TT 15 ((True∧c.rule.kind = 0)∧((0 ≤ (0 : Int)∧0 < (4 : Int))∧True)∧TT 3 (CC (KE c v is)∧TT 2 (c.first = (b5 c v is)∧True)))) (.w 2 [(2,.val (i6 0)),(7,(KE c v is).O)] <| .e) Try.func83 rfl rfl rfl (by kernel_rfl) ?_
 refine tt ⟨⟨oK,(by exact hk)⟩,⟨⟨by omega,oK⟩,tt ⟨(FS c v is),tt ⟨?_,oK⟩⟩⟩⟩
 unfold b5; first | (rw [if_pos (by omega)]; done) | (rw [if_neg (by omega),if_pos (by omega)]; done) | (rw [if_neg (by omega),if_neg (by omega)])
theorem Jy (c : dV) (v : Int) (is : Bool) (hk : c.rule.kind = 1) : CC (ni c v is) := by
 refine aq.vc (V := TT 15 ((True∧c.rule.kind = 1)∧((0 ≤ (1 : Int)∧1 < (4 : Int))∧True)∧TT 3 (CC (HQ c v is)∧TT 2 ((d6 c v is) = (b5 c v is)∧True)))) (.w 2 [(2,.val (i6 1)),(7,(HQ c v is).O)] <| .e) Try.func83 rfl rfl rfl (by kernel_rfl) ?_
 refine tt ⟨⟨oK,(by exact hk)⟩,⟨⟨by omega,oK⟩,tt ⟨(yM c v is),tt ⟨?_,oK⟩⟩⟩⟩
 unfold b5; first | (rw [if_pos (by omega)]; done) | (rw [if_neg (by omega),if_pos (by omega)]; done) | (rw [if_neg (by omega),if_neg (by omega)])
theorem Jz (c : dV) (v : Int) (is : Bool) (hk : c.rule.kind = 2) : CC (ni c v is) := by
 refine aq.vc (V := TT 15 ((True∧c.rule.kind = 2)∧((0 ≤ (2 : Int)∧2 < (4 : Int))∧True)∧TT 3 (CC (HQ c v is)∧TT 2 ((d6 c v is) = (b5 c v is)∧True)))) (.w 2 [(2,.val (i6 2)),(7,(HQ c v is).O)] <| .e) Try.func83 rfl rfl rfl (by kernel_rfl) ?_
 refine tt ⟨⟨oK,(by exact hk)⟩,⟨⟨by omega,oK⟩,tt ⟨(yM c v is),tt ⟨?_,oK⟩⟩⟩⟩
 unfold b5; first | (rw [if_pos (by omega)]; done) | (rw [if_neg (by omega),if_pos (by omega)]; done) | (rw [if_neg (by omega),if_neg (by omega)])
theorem JA (c : dV) (v : Int) (is : Bool) (hk : c.rule.kind = 3) : CC (ni c v is) := by
 refine aq.vc (V := TT 15 ((True∧c.rule.kind = 3)∧((0 ≤ (3 : Int)∧3 < (4 : Int))∧True)∧TT 3 (CC (KF c v is)∧TT 2 ((ot c v is) = (b5 c v is)∧True)))) (.w 2 [(2,.val (i6 3)),(7,(KF c v is).O)] <| .e) Try.func83 rfl rfl rfl (by kernel_rfl) ?_
 refine tt ⟨⟨oK,(by exact hk)⟩,⟨⟨by omega,oK⟩,tt ⟨(HR c v is),tt ⟨?_,oK⟩⟩⟩⟩
 unfold b5; first | (rw [if_pos (by omega)]; done) | (rw [if_neg (by omega),if_pos (by omega)]; done) | (rw [if_neg (by omega),if_neg (by omega)])
theorem fH (c : dV) (v : Int) (is : Bool) (h : 0 ≤ c.rule.kind∧c.rule.kind ≤ 3) : CC (ni c v is) := by
  have : c.rule.kind = 0 ∨ c.rule.kind = 1 ∨ c.rule.kind = 2 ∨ c.rule.kind = 3 := by omega
  rcases this with h | h | h | h
  · exact Jx c v is h
  · exact Jy c v is h
  · exact Jz c v is h
  · exact JA c v is h
abbrev KG (f : qc) (r : Rg) : Ct := ⟨60,[(.agg [(dS f.p.name),(dS f.p.clock),(dL 13 bA aK f.p.regs),(dL 27 bV ax f.p.mems),(dL 9 dJ bO f.p.takes),(dL 16 dz bU f.p.puts),(LI f.s.regs),(dL 1 ae [] f.s.mems),(.v (.sm false (aa .i64) 0 f.regs)),(.v (.sm false (aa .i64) 0 f.mems))]),(.agg [(dS r.name),(i6 r.w),(i6 r.init),(i6 r.next.op),(dS r.next.name),(i6 r.next.k.n),(dS r.next.k.p),(i6 r.next.w.n),(dS r.next.w.p),(dL 7 (eA 2) dE r.next.args),(i6 r.rule.kind),(dS r.rule.src),(i6 r.rule.n)])],false,(i6 (eu f r))⟩
theorem HS (f : qc) (r : Rg) (hrk : 0 ≤ r.rule.kind∧r.rule.kind ≤ 3) (hix : aY f.regs (au r.name r.rule) = true → 0 ≤ ah 0 f.regs (au r.name r.rule)∧ah 0 f.regs (au r.name r.rule) < f.p.regs.length∧ah 0 f.regs (au r.name r.rule) < f.s.regs.length) : CC (KG f r) := by
 refine aq.vc (V := TT 9 (CC (Jw r.name r.rule)∧((cr (i6 0) (ft false ((aa .i64) 0)))∧(false = false → ∀ p ∈ f.regs,((aa .i64) p.2).length = 1))∧TT 5 (CS ((aY f.regs (au r.name r.rule)) = true) (TT 1 ((True∧(aY f.regs (au r.name r.rule)) = true)∧TT 5 (CD (r.rule.kind = 1) (TT 4 (IX (ah 0 f.regs (au r.name r.rule)) f.p.regs.length∧TT 4 ((True∧(((f.p.regs.getD ((ah 0 f.regs (au r.name r.rule)).toNat) aK).w) == r.w) = (decide ((f.p.regs.getD (ah 0 f.regs (au r.name r.rule)).toNat aK).w = r.w)))∧TT 3 (CD ((f.p.regs.getD (ah 0 f.regs (au r.name r.rule)).toNat aK).w = r.w) (TT 4 (IX (ah 0 f.regs (au r.name r.rule)) f.s.regs.length∧TT 11 (CC (ni (⟨r.init,r.w,r.rule⟩ : dV) (f.s.regs.getD ((ah 0 f.regs (au r.name r.rule)).toNat) 0) (decide ((f.p.regs.getD (ah 0 f.regs (au r.name r.rule)).toNat aK).w = r.w)))∧TT 2 ((b5 (⟨r.init,r.w,r.rule⟩ : dV) (f.s.regs.getD ((ah 0 f.regs (au r.name r.rule)).toNat) 0) (decide ((f.p.regs.getD (ah 0 f.regs (au r.name r.rule)).toNat aK).w = r.w))) = (eu f r)∧True)))) (TT 9 (CC (ni (⟨r.init,r.w,r.rule⟩ : dV) 0 (decide ((f.p.regs.getD (ah 0 f.regs (au r.name r.rule)).toNat aK).w = r.w)))∧TT 2 ((b5 (⟨r.init,r.w,r.rule⟩ : dV) 0 (decide ((f.p.regs.getD (ah 0 f.regs (au r.name r.rule)).toNat aK).w = r.w))) = (eu f r)∧True))))))) (TT 2 (CB (aY f.regs (au r.name r.rule)) (TT 4 (IX (ah 0 f.regs (au r.name r.rule)) f.s.regs.length∧TT 11 (CC (ni (⟨r.init,r.w,r.rule⟩ : dV) (f.s.regs.getD ((ah 0 f.regs (au r.name r.rule)).toNat) 0) (aY f.regs (au r.name r.rule)))∧TT 2 ((b5 (⟨r.init,r.w,r.rule⟩ : dV) (f.s.regs.getD ((ah 0 f.regs (au r.name r.rule)).toNat) 0) (aY f.regs (au r.name r.rule))) = (eu f r)∧True)))) (TT 9 (CC (ni (⟨r.init,r.w,r.rule⟩ : dV) 0 (aY f.regs (au r.name r.rule)))∧TT 2 ((b5 (⟨r.init,r.w,r.rule⟩ : dV) 0 (aY f.regs (au r.name r.rule))) = (eu f r)∧True)))))))) (TT 1 ((True∧(aY f.regs (au r.name r.rule)) = false)∧TT 7 ((aY f.regs (au r.name r.rule)) = false∧TT 9 (CC (ni (⟨r.init,r.w,r.rule⟩ : dV) 0 (aY f.regs (au r.name r.rule)))∧TT 2 ((b5 (⟨r.init,r.w,r.rule⟩ : dV) 0 (aY f.regs (au r.name r.rule))) = (eu f r)∧True)))))))) (.w 1 [(6,(Jw r.name r.rule).O)] <| .s 2 ((aY f.regs (au r.name r.rule)) = true) (.w 2 [(1,.val (dB true))] <| .b 25 (.w 3 [(9,.val (dB (decide ((f.p.regs.getD (ah 0 f.regs (au r.name r.rule)).toNat aK).w = r.w))))] <| .b 36 (.w 7 [(9,(ni (⟨r.init,r.w,r.rule⟩ : dV) (f.s.regs.getD ((ah 0 f.regs (au r.name r.rule)).toNat) 0) (decide ((f.p.regs.getD (ah 0 f.regs (au r.name r.rule)).toNat aK).w = r.w))).O)] <| .e) (.w 7 [(9,(ni (⟨r.init,r.w,r.rule⟩ : dV) 0 (decide ((f.p.regs.getD (ah 0 f.regs (au r.name r.rule)).toNat aK).w = r.w))).O)] <| .e)) (.b 36 (.w 7 [(9,(ni (⟨r.init,r.w,r.rule⟩ : dV) (f.s.regs.getD ((ah 0 f.regs (au r.name r.rule)).toNat) 0) (aY f.regs (au r.name r.rule))).O)] <| .e) (.w 7 [(9,(ni (⟨r.init,r.w,r.rule⟩ : dV) 0 (aY f.regs (au r.name r.rule))).O)] <| .e))) (.w 2 [(1,.val (dB false))] <| .u 36 (.w 7 [(9,(ni (⟨r.init,r.w,r.rule⟩ : dV) 0 (aY f.regs (au r.name r.rule))).O)] <| .e))) Try.func60 rfl rfl rfl (by kernel_rfl) ?_
 refine tt ⟨(An r.name r.rule),⟨⟨(cr.refl _),(fun _ _ _ => rfl)⟩,tt ⟨fun hs0 => ?_,fun hs0 => ?_⟩⟩⟩
 · have hx := hix hs0
   refine tt ⟨(bT hs0),tt (cd (fun hc25 => ?_) (fun hc25 => ?_))⟩
   · refine tt ⟨ix,tt ⟨⟨oK,(by rfl)⟩,tt (cd (fun hc36 => ?_) (fun hc36 => ?_))⟩⟩
     · refine tt ⟨ix,tt ⟨(fH (⟨r.init,r.w,r.rule⟩ : dV) (f.s.regs.getD ((ah 0 f.regs (au r.name r.rule)).toNat) 0) (decide ((f.p.regs.getD (ah 0 f.regs (au r.name r.rule)).toNat aK).w = r.w)) hrk),tt ⟨?_,oK⟩⟩⟩
       unfold eu mJ vK w9; first | (simp_all; done) | (split <;> simp_all)
     · refine tt ⟨(fH (⟨r.init,r.w,r.rule⟩ : dV) 0 (decide ((f.p.regs.getD (ah 0 f.regs (au r.name r.rule)).toNat aK).w = r.w)) hrk),tt ⟨?_,oK⟩⟩
       unfold eu mJ vK w9; first | (simp_all; done) | (split <;> simp_all)
   · refine tt ⟨fun hc36 => ?_,fun hc36 => ?_⟩
     · refine tt ⟨ix,tt ⟨(fH (⟨r.init,r.w,r.rule⟩ : dV) (f.s.regs.getD ((ah 0 f.regs (au r.name r.rule)).toNat) 0) (aY f.regs (au r.name r.rule)) hrk),tt ⟨?_,oK⟩⟩⟩
       unfold eu mJ vK w9; first | (simp_all; done) | (split <;> simp_all)
     · refine tt ⟨(fH (⟨r.init,r.w,r.rule⟩ : dV) 0 (aY f.regs (au r.name r.rule)) hrk),tt ⟨?_,oK⟩⟩
       unfold eu mJ vK w9; first | (simp_all; done) | (split <;> simp_all)
 · refine tt ⟨(bF hs0),tt ⟨(LO (by first | exact hs0 | exact Bool.eq_false_iff.2 hs0)),tt ⟨(fH (⟨r.init,r.w,r.rule⟩ : dV) 0 (aY f.regs (au r.name r.rule)) hrk),tt ⟨?_,oK⟩⟩⟩⟩
   unfold eu mJ vK w9; first | (simp_all; done) | (split <;> simp_all)
end Go.Proofs.Ytnlmlkbaflmgcaa
