/-
  Package migrate: carried values.
-/
import Derived.Test.YtnlmlkbaflmgcaaQMiB
namespace Go.Proofs.Ytnlmlkbaflmgcaa
open Go.RowKit
set_option linter.unusedVariables false
set_option linter.unusedSimpArgs false
abbrev zU (c : dU) (v : Int) (is : Bool) : List D := [(.agg [(i6 c.first),(i6 c.w),(i6 c.rule.kind),(dS c.rule.src),(i6 c.rule.n)]),(i6 v),(dB is)]
set_option maxRecDepth 100000
abbrev Jb (own : ByteArray) (r : ao) : Ct := ⟨82,[(dS own),(.agg [(i6 r.kind),(dS r.src),(i6 r.n)])],true,(dS (au own r))⟩
theorem zV (own : ByteArray) (r : ao) : CC (Jb own r) := by
 refine ap.vc (V := TT 5 (CD (r.kind = 1) (TT 3 (own = (au own r))) (TT 4 (r.src = (au own r))))) (.b 7 (.e) (.e)) Try.func82 rfl rfl rfl (by kernel_rfl) ?_
 refine tt (cd (fun hc7 => ?_) (fun hc7 => ?_))
 · refine tt ?_
   first | exact (if_pos hc7).symm | exact (if_neg hc7).symm
 · refine tt ?_
   first | exact (if_pos hc7).symm | exact (if_neg hc7).symm
abbrev Kf (c : dU) (v : Int) (is : Bool) : Ct := ⟨93,(zU c v is),false,(i6 c.first)⟩
theorem FH (c : dU) (v : Int) (is : Bool) : CC (Kf c v is) := by
 refine ap.vc (V := TT 6 (c.first = c.first∧True)) (.e) Try.func93 rfl rfl rfl (by kernel_rfl) ?_
 exact tt ⟨rfl,oK⟩
abbrev Hy (c : dU) (v : Int) (is : Bool) : Ct := ⟨94,(zU c v is),false,(i6 (d4 c v is))⟩
theorem yx (c : dU) (v : Int) (is : Bool) : CC (Hy c v is) := by
 refine ap.vc (V := TT 4 (CB (!is) (TT 4 (c.first = (d4 c v is)∧True)) (TT 3 (CC (Hw c.w)∧(True∧(IntKind.wrap .i64 (BitVec.ofInt (IntKind.i64).bits v &&& BitVec.ofInt (IntKind.i64).bits (aD c.w)).toNat) = (kG v c.w))∧TT 2 ((kG v c.w) = (d4 c v is)∧True))))) (.b 8 (.e) (.w 3 [(3,(Hw c.w).O),(4,.val (i6 (kG v c.w)))] <| .e)) Try.func94 rfl rfl rfl (by kernel_rfl) ?_
 refine tt ⟨fun hc8 => ?_,fun hc8 => ?_⟩
 · refine tt ⟨?_,oK⟩
   unfold d4; first | (rw [if_neg (by simp_all)]; done) | (rw [if_pos (by simp_all)])
 · refine tt ⟨(vw c.w),⟨⟨oK,Dh⟩,tt ⟨?_,oK⟩⟩⟩
   unfold d4; first | (rw [if_neg (by simp_all)]; done) | (rw [if_pos (by simp_all)])
abbrev Kg (c : dU) (v : Int) (is : Bool) : Ct := ⟨95,(zU c v is),false,(i6 (oc c v is))⟩
theorem Hz (c : dU) (v : Int) (is : Bool) : CC (Kg c v is) := by
 refine ap.vc (V := TT 5 (CC (Hy c v is)∧TT 3 ((True∧(IntKind.wrap .i64 ((d4 c v is) + c.rule.n)) = (IntKind.wrap .i64 (d4 c v is + c.rule.n)))∧TT 2 (CC (Hw c.w)∧(True∧(IntKind.wrap .i64 (BitVec.ofInt (IntKind.i64).bits (IntKind.wrap .i64 (d4 c v is + c.rule.n)) &&& BitVec.ofInt (IntKind.i64).bits (aD c.w)).toNat) = (oc c v is))∧TT 2 ((oc c v is) = (oc c v is)∧True))))) (.w 1 [(3,(Hy c v is).O),(7,.val (i6 (IntKind.wrap .i64 (d4 c v is + c.rule.n)))),(10,(Hw c.w).O),(11,.val (i6 (oc c v is)))] <| .e) Try.func95 rfl rfl rfl (by kernel_rfl) ?_
 exact tt ⟨(yx c v is),tt ⟨⟨oK,(by rfl)⟩,tt ⟨(vw c.w),⟨⟨oK,(by rw [Dh,Dj]; rfl)⟩,tt ⟨rfl,oK⟩⟩⟩⟩⟩
abbrev mX (c : dU) (v : Int) (is : Bool) : Ct := ⟨83,(zU c v is),false,(i6 (bZ c v is))⟩
theorem Jc (c : dU) (v : Int) (is : Bool) (hk : c.rule.kind = 0) : CC (mX c v is) := by
 refine ap.vc (V := TT 15 ((True∧c.rule.kind = 0)∧((0 ≤ (0 : Int)∧0 < (4 : Int))∧True)∧TT 3 (CC (Kf c v is)∧TT 2 (c.first = (bZ c v is)∧True)))) (.w 2 [(2,.val (i6 0)),(7,(Kf c v is).O)] <| .e) Try.func83 rfl rfl rfl (by kernel_rfl) ?_
 refine tt ⟨⟨oK,(by exact hk)⟩,⟨⟨by omega,oK⟩,tt ⟨(FH c v is),tt ⟨?_,oK⟩⟩⟩⟩
 unfold bZ; first | (rw [if_pos (by omega)]; done) | (rw [if_neg (by omega),if_pos (by omega)]; done) | (rw [if_neg (by omega),if_neg (by omega)])
theorem Jd (c : dU) (v : Int) (is : Bool) (hk : c.rule.kind = 1) : CC (mX c v is) := by
 refine ap.vc (V := TT 15 ((True∧c.rule.kind = 1)∧((0 ≤ (1 : Int)∧1 < (4 : Int))∧True)∧TT 3 (CC (Hy c v is)∧TT 2 ((d4 c v is) = (bZ c v is)∧True)))) (.w 2 [(2,.val (i6 1)),(7,(Hy c v is).O)] <| .e) Try.func83 rfl rfl rfl (by kernel_rfl) ?_
 refine tt ⟨⟨oK,(by exact hk)⟩,⟨⟨by omega,oK⟩,tt ⟨(yx c v is),tt ⟨?_,oK⟩⟩⟩⟩
 unfold bZ; first | (rw [if_pos (by omega)]; done) | (rw [if_neg (by omega),if_pos (by omega)]; done) | (rw [if_neg (by omega),if_neg (by omega)])
theorem Je (c : dU) (v : Int) (is : Bool) (hk : c.rule.kind = 2) : CC (mX c v is) := by
 refine ap.vc (V := TT 15 ((True∧c.rule.kind = 2)∧((0 ≤ (2 : Int)∧2 < (4 : Int))∧True)∧TT 3 (CC (Hy c v is)∧TT 2 ((d4 c v is) = (bZ c v is)∧True)))) (.w 2 [(2,.val (i6 2)),(7,(Hy c v is).O)] <| .e) Try.func83 rfl rfl rfl (by kernel_rfl) ?_
 refine tt ⟨⟨oK,(by exact hk)⟩,⟨⟨by omega,oK⟩,tt ⟨(yx c v is),tt ⟨?_,oK⟩⟩⟩⟩
 unfold bZ; first | (rw [if_pos (by omega)]; done) | (rw [if_neg (by omega),if_pos (by omega)]; done) | (rw [if_neg (by omega),if_neg (by omega)])
theorem Jf (c : dU) (v : Int) (is : Bool) (hk : c.rule.kind = 3) : CC (mX c v is) := by
 refine ap.vc (V := TT 15 ((True∧c.rule.kind = 3)∧((0 ≤ (3 : Int)∧3 < (4 : Int))∧True)∧TT 3 (CC (Kg c v is)∧TT 2 ((oc c v is) = (bZ c v is)∧True)))) (.w 2 [(2,.val (i6 3)),(7,(Kg c v is).O)] <| .e) Try.func83 rfl rfl rfl (by kernel_rfl) ?_
 refine tt ⟨⟨oK,(by exact hk)⟩,⟨⟨by omega,oK⟩,tt ⟨(Hz c v is),tt ⟨?_,oK⟩⟩⟩⟩
 unfold bZ; first | (rw [if_pos (by omega)]; done) | (rw [if_neg (by omega),if_pos (by omega)]; done) | (rw [if_neg (by omega),if_neg (by omega)])
theorem fC (c : dU) (v : Int) (is : Bool) (h : 0 ≤ c.rule.kind∧c.rule.kind ≤ 3) : CC (mX c v is) := by
  have : c.rule.kind = 0 ∨ c.rule.kind = 1 ∨ c.rule.kind = 2 ∨ c.rule.kind = 3 := by omega
  rcases this with h | h | h | h
  · exact Jc c v is h
  · exact Jd c v is h
  · exact Je c v is h
  · exact Jf c v is h
abbrev Kh (f : pV) (r : Rg) : Ct := ⟨60,[(.agg [(dS f.p.name),(dS f.p.clock),(dL 13 bM aO f.p.regs),(dL 27 cj aB f.p.mems),(dL 9 dJ bO f.p.takes),(dL 16 dD bV f.p.puts),(LI f.s.regs),(dL 1 ac [] f.s.mems),(.v (.sm false (aa .i64) 0 f.regs)),(.v (.sm false (aa .i64) 0 f.mems))]),(.agg [(dS r.name),(i6 r.w),(i6 r.init),(i6 r.next.op),(dS r.next.name),(i6 r.next.k.n),(dS r.next.k.p),(i6 r.next.w.n),(dS r.next.w.p),(dL 7 (eA 2) dE r.next.args),(i6 r.rule.kind),(dS r.rule.src),(i6 r.rule.n)])],false,(i6 (eh f r))⟩
theorem HA (f : pV) (r : Rg) (hrk : 0 ≤ r.rule.kind∧r.rule.kind ≤ 3) (hix : aW f.regs (au r.name r.rule) = true → 0 ≤ ah 0 f.regs (au r.name r.rule)∧ah 0 f.regs (au r.name r.rule) < f.p.regs.length∧ah 0 f.regs (au r.name r.rule) < f.s.regs.length) : CC (Kh f r) := by
 refine ap.vc (V := TT 9 (CC (Jb r.name r.rule)∧((cg (i6 0) (fo false ((aa .i64) 0)))∧(false = false → ∀ p ∈ f.regs,((aa .i64) p.2).length = 1))∧TT 5 (CS ((aW f.regs (au r.name r.rule)) = true) (TT 1 ((True∧(aW f.regs (au r.name r.rule)) = true)∧TT 5 (CD (r.rule.kind = 1) (TT 4 (IX (ah 0 f.regs (au r.name r.rule)) f.p.regs.length∧TT 4 ((True∧(((f.p.regs.getD ((ah 0 f.regs (au r.name r.rule)).toNat) aO).w) == r.w) = (decide ((f.p.regs.getD (ah 0 f.regs (au r.name r.rule)).toNat aO).w = r.w)))∧TT 3 (CD ((f.p.regs.getD (ah 0 f.regs (au r.name r.rule)).toNat aO).w = r.w) (TT 4 (IX (ah 0 f.regs (au r.name r.rule)) f.s.regs.length∧TT 11 (CC (mX (⟨r.init,r.w,r.rule⟩ : dU) (f.s.regs.getD ((ah 0 f.regs (au r.name r.rule)).toNat) 0) (decide ((f.p.regs.getD (ah 0 f.regs (au r.name r.rule)).toNat aO).w = r.w)))∧TT 2 ((bZ (⟨r.init,r.w,r.rule⟩ : dU) (f.s.regs.getD ((ah 0 f.regs (au r.name r.rule)).toNat) 0) (decide ((f.p.regs.getD (ah 0 f.regs (au r.name r.rule)).toNat aO).w = r.w))) = (eh f r)∧True)))) (TT 9 (CC (mX (⟨r.init,r.w,r.rule⟩ : dU) 0 (decide ((f.p.regs.getD (ah 0 f.regs (au r.name r.rule)).toNat aO).w = r.w)))∧TT 2 ((bZ (⟨r.init,r.w,r.rule⟩ : dU) 0 (decide ((f.p.regs.getD (ah 0 f.regs (au r.name r.rule)).toNat aO).w = r.w))) = (eh f r)∧True))))))) (TT 2 (CB (aW f.regs (au r.name r.rule)) (TT 4 (IX (ah 0 f.regs (au r.name r.rule)) f.s.regs.length∧TT 11 (CC (mX (⟨r.init,r.w,r.rule⟩ : dU) (f.s.regs.getD ((ah 0 f.regs (au r.name r.rule)).toNat) 0) (aW f.regs (au r.name r.rule)))∧TT 2 ((bZ (⟨r.init,r.w,r.rule⟩ : dU) (f.s.regs.getD ((ah 0 f.regs (au r.name r.rule)).toNat) 0) (aW f.regs (au r.name r.rule))) = (eh f r)∧True)))) (TT 9 (CC (mX (⟨r.init,r.w,r.rule⟩ : dU) 0 (aW f.regs (au r.name r.rule)))∧TT 2 ((bZ (⟨r.init,r.w,r.rule⟩ : dU) 0 (aW f.regs (au r.name r.rule))) = (eh f r)∧True)))))))) (TT 1 ((True∧(aW f.regs (au r.name r.rule)) = false)∧TT 7 ((aW f.regs (au r.name r.rule)) = false∧TT 9 (CC (mX (⟨r.init,r.w,r.rule⟩ : dU) 0 (aW f.regs (au r.name r.rule)))∧TT 2 ((bZ (⟨r.init,r.w,r.rule⟩ : dU) 0 (aW f.regs (au r.name r.rule))) = (eh f r)∧True)))))))) (.w 1 [(6,(Jb r.name r.rule).O)] <| .s 2 ((aW f.regs (au r.name r.rule)) = true) (.w 2 [(1,.val (dB true))] <| .b 25 (.w 3 [(9,.val (dB (decide ((f.p.regs.getD (ah 0 f.regs (au r.name r.rule)).toNat aO).w = r.w))))] <| .b 36 (.w 7 [(9,(mX (⟨r.init,r.w,r.rule⟩ : dU) (f.s.regs.getD ((ah 0 f.regs (au r.name r.rule)).toNat) 0) (decide ((f.p.regs.getD (ah 0 f.regs (au r.name r.rule)).toNat aO).w = r.w))).O)] <| .e) (.w 7 [(9,(mX (⟨r.init,r.w,r.rule⟩ : dU) 0 (decide ((f.p.regs.getD (ah 0 f.regs (au r.name r.rule)).toNat aO).w = r.w))).O)] <| .e)) (.b 36 (.w 7 [(9,(mX (⟨r.init,r.w,r.rule⟩ : dU) (f.s.regs.getD ((ah 0 f.regs (au r.name r.rule)).toNat) 0) (aW f.regs (au r.name r.rule))).O)] <| .e) (.w 7 [(9,(mX (⟨r.init,r.w,r.rule⟩ : dU) 0 (aW f.regs (au r.name r.rule))).O)] <| .e))) (.w 2 [(1,.val (dB false))] <| .u 36 (.w 7 [(9,(mX (⟨r.init,r.w,r.rule⟩ : dU) 0 (aW f.regs (au r.name r.rule))).O)] <| .e))) Try.func60 rfl rfl rfl (by kernel_rfl) ?_
 refine tt ⟨(zV r.name r.rule),⟨⟨(cg.refl _),(fun _ _ _ => rfl)⟩,tt ⟨fun hs0 => ?_,fun hs0 => ?_⟩⟩⟩
 · have hx := hix hs0
   refine tt ⟨(bT hs0),tt (cd (fun hc25 => ?_) (fun hc25 => ?_))⟩
   · refine tt ⟨ix,tt ⟨⟨oK,(by rfl)⟩,tt (cd (fun hc36 => ?_) (fun hc36 => ?_))⟩⟩
     · refine tt ⟨ix,tt ⟨(fC (⟨r.init,r.w,r.rule⟩ : dU) (f.s.regs.getD ((ah 0 f.regs (au r.name r.rule)).toNat) 0) (decide ((f.p.regs.getD (ah 0 f.regs (au r.name r.rule)).toNat aO).w = r.w)) hrk),tt ⟨?_,oK⟩⟩⟩
       unfold eh mj vu wS; first | (simp_all; done) | (split <;> simp_all)
     · refine tt ⟨(fC (⟨r.init,r.w,r.rule⟩ : dU) 0 (decide ((f.p.regs.getD (ah 0 f.regs (au r.name r.rule)).toNat aO).w = r.w)) hrk),tt ⟨?_,oK⟩⟩
       unfold eh mj vu wS; first | (simp_all; done) | (split <;> simp_all)
   · refine tt ⟨fun hc36 => ?_,fun hc36 => ?_⟩
     · refine tt ⟨ix,tt ⟨(fC (⟨r.init,r.w,r.rule⟩ : dU) (f.s.regs.getD ((ah 0 f.regs (au r.name r.rule)).toNat) 0) (aW f.regs (au r.name r.rule)) hrk),tt ⟨?_,oK⟩⟩⟩
       unfold eh mj vu wS; first | (simp_all; done) | (split <;> simp_all)
     · refine tt ⟨(fC (⟨r.init,r.w,r.rule⟩ : dU) 0 (aW f.regs (au r.name r.rule)) hrk),tt ⟨?_,oK⟩⟩
       unfold eh mj vu wS; first | (simp_all; done) | (split <;> simp_all)
 · refine tt ⟨(bF hs0),tt ⟨(Lj (by first | exact hs0 | exact Bool.eq_false_iff.2 hs0)),tt ⟨(fC (⟨r.init,r.w,r.rule⟩ : dU) 0 (aW f.regs (au r.name r.rule)) hrk),tt ⟨?_,oK⟩⟩⟩⟩
   unfold eh mj vu wS; first | (simp_all; done) | (split <;> simp_all)
end Go.Proofs.Ytnlmlkbaflmgcaa
