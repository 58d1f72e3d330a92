/-
  Processes, plain law: facts for the walks over steps.
-/
import Derived.Test.YtnlmlkbaflmgcaaQMiB
namespace Go.Proofs.Ytnlmlkbaflmgcaa
open Go.RowKit
set_option linter.unusedVariables false
set_option linter.unusedSimpArgs false
abbrev zZ (c : d5) (v : Int) (is : Bool) : List D := [(.agg [(i6 c.first),(i6 c.w),(i6 c.rule.kind),(dS c.rule.src),(i6 c.rule.n)]),(i6 v),(dB is)]
set_option maxRecDepth 100000
abbrev JC (own : ByteArray) (r : ao) : Ct := ⟨82,[(dS own),(.agg [(i6 r.kind),(dS r.src),(i6 r.n)])],true,(dS (ay own r))⟩
theorem z3 (own : ByteArray) (r : ao) : CC (JC own r) := by
 refine ap.vc (V := TT 5 (CD (r.kind = 1) (TT 3 (own = (ay own r))) (TT 4 (r.src = (ay own r))))) (.b 7 (.e) (.e)) Try.func82 rfl rfl rfl (by kernel_rfl) ?_
 refine tt (cd (fun hc7 => ?_) (fun hc7 => ?_))
 · refine tt ?_
   first | exact (if_pos hc7).symm | exact (if_neg hc7).symm
 · refine tt ?_
   first | exact (if_pos hc7).symm | exact (if_neg hc7).symm
abbrev KJ (c : d5) (v : Int) (is : Bool) : Ct := ⟨93,(zZ c v is),false,(i6 c.first)⟩
theorem FN (c : d5) (v : Int) (is : Bool) : CC (KJ c v is) := by
 refine ap.vc (V := TT 6 (c.first = c.first∧True)) (.e) Try.func93 rfl rfl rfl (by kernel_rfl) ?_
 exact tt ⟨rfl,oK⟩
abbrev HJ (c : d5) (v : Int) (is : Bool) : Ct := ⟨94,(zZ c v is),false,(i6 (eu c v is))⟩
theorem yz (c : d5) (v : Int) (is : Bool) : CC (HJ c v is) := by
 refine ap.vc (V := TT 4 (CB (!is) (TT 4 (c.first = (eu c v is)∧True)) (TT 3 (CC (JB c.w)∧(True∧(IntKind.wrap .i64 (BitVec.ofInt (IntKind.i64).bits v &&& BitVec.ofInt (IntKind.i64).bits (aG c.w)).toNat) = (dH v c.w))∧TT 2 ((dH v c.w) = (eu c v is)∧True))))) (.b 8 (.e) (.w 3 [(3,(JB c.w).O),(4,.val (i6 (dH v c.w)))] <| .e)) Try.func94 rfl rfl rfl (by kernel_rfl) ?_
 refine tt ⟨fun hc8 => ?_,fun hc8 => ?_⟩
 · refine tt ⟨?_,oK⟩
   unfold eu; first | (rw [if_neg (by simp_all)]; done) | (rw [if_pos (by simp_all)])
 · refine tt ⟨(zX c.w),⟨⟨oK,Dt⟩,tt ⟨?_,oK⟩⟩⟩
   unfold eu; first | (rw [if_neg (by simp_all)]; done) | (rw [if_pos (by simp_all)])
abbrev KK (c : d5) (v : Int) (is : Bool) : Ct := ⟨95,(zZ c v is),false,(i6 (ow c v is))⟩
theorem HK (c : d5) (v : Int) (is : Bool) : CC (KK c v is) := by
 refine ap.vc (V := TT 5 (CC (HJ c v is)∧TT 3 ((True∧(IntKind.wrap .i64 ((eu c v is) + c.rule.n)) = (IntKind.wrap .i64 (eu c v is + c.rule.n)))∧TT 2 (CC (JB c.w)∧(True∧(IntKind.wrap .i64 (BitVec.ofInt (IntKind.i64).bits (IntKind.wrap .i64 (eu c v is + c.rule.n)) &&& BitVec.ofInt (IntKind.i64).bits (aG c.w)).toNat) = (ow c v is))∧TT 2 ((ow c v is) = (ow c v is)∧True))))) (.w 1 [(3,(HJ c v is).O),(7,.val (i6 (IntKind.wrap .i64 (eu c v is + c.rule.n)))),(10,(JB c.w).O),(11,.val (i6 (ow c v is)))] <| .e) Try.func95 rfl rfl rfl (by kernel_rfl) ?_
 exact tt ⟨(yz c v is),tt ⟨⟨oK,(by rfl)⟩,tt ⟨(zX c.w),⟨⟨oK,(by rw [Dt,jw]; rfl)⟩,tt ⟨rfl,oK⟩⟩⟩⟩⟩
abbrev nq (c : d5) (v : Int) (is : Bool) : Ct := ⟨83,(zZ c v is),false,(i6 (b6 c v is))⟩
theorem JD (c : d5) (v : Int) (is : Bool) (hk : c.rule.kind = 0) : CC (nq c v is) := by
 refine ap.vc (V := TT 15 ((True∧c.rule.kind = 0)∧((0 ≤ (0 : Int)∧0 < (4 : Int))∧True)∧TT 3 (CC (KJ c v is)∧TT 2 (c.first = (b6 c v is)∧True)))) (.w 2 [(2,.val (i6 0)),(7,(KJ c v is).O)] <| .e) Try.func83 rfl rfl rfl (by kernel_rfl) ?_
 refine tt ⟨⟨oK,(by exact hk)⟩,⟨⟨by omega,oK⟩,tt ⟨(FN c v is),tt ⟨?_,oK⟩⟩⟩⟩
 unfold b6; first | (rw [if_pos (by omega)]; done) | (rw [if_neg (by omega),if_pos (by omega)]; done) | (rw [if_neg (by omega),if_neg (by omega)])
theorem JE (c : d5) (v : Int) (is : Bool) (hk : c.rule.kind = 1) : CC (nq c v is) := by
 refine ap.vc (V := TT 15 ((True∧c.rule.kind = 1)∧((0 ≤ (1 : Int)∧1 < (4 : Int))∧True)∧TT 3 (CC (HJ c v is)∧TT 2 ((eu c v is) = (b6 c v is)∧True)))) (.w 2 [(2,.val (i6 1)),(7,(HJ c v is).O)] <| .e) Try.func83 rfl rfl rfl (by kernel_rfl) ?_
 refine tt ⟨⟨oK,(by exact hk)⟩,⟨⟨by omega,oK⟩,tt ⟨(yz c v is),tt ⟨?_,oK⟩⟩⟩⟩
 unfold b6; first | (rw [if_pos (by omega)]; done) | (rw [if_neg (by omega),if_pos (by omega)]; done) | (rw [if_neg (by omega),if_neg (by omega)])
theorem JF (c : d5) (v : Int) (is : Bool) (hk : c.rule.kind = 2) : CC (nq c v is) := by
 refine ap.vc (V := TT 15 ((True∧c.rule.kind = 2)∧((0 ≤ (2 : Int)∧2 < (4 : Int))∧True)∧TT 3 (CC (HJ c v is)∧TT 2 ((eu c v is) = (b6 c v is)∧True)))) (.w 2 [(2,.val (i6 2)),(7,(HJ c v is).O)] <| .e) Try.func83 rfl rfl rfl (by kernel_rfl) ?_
 refine tt ⟨⟨oK,(by exact hk)⟩,⟨⟨by omega,oK⟩,tt ⟨(yz c v is),tt ⟨?_,oK⟩⟩⟩⟩
 unfold b6; first | (rw [if_pos (by omega)]; done) | (rw [if_neg (by omega),if_pos (by omega)]; done) | (rw [if_neg (by omega),if_neg (by omega)])
theorem JG (c : d5) (v : Int) (is : Bool) (hk : c.rule.kind = 3) : CC (nq c v is) := by
 refine ap.vc (V := TT 15 ((True∧c.rule.kind = 3)∧((0 ≤ (3 : Int)∧3 < (4 : Int))∧True)∧TT 3 (CC (KK c v is)∧TT 2 ((ow c v is) = (b6 c v is)∧True)))) (.w 2 [(2,.val (i6 3)),(7,(KK c v is).O)] <| .e) Try.func83 rfl rfl rfl (by kernel_rfl) ?_
 refine tt ⟨⟨oK,(by exact hk)⟩,⟨⟨by omega,oK⟩,tt ⟨(HK c v is),tt ⟨?_,oK⟩⟩⟩⟩
 unfold b6; first | (rw [if_pos (by omega)]; done) | (rw [if_neg (by omega),if_pos (by omega)]; done) | (rw [if_neg (by omega),if_neg (by omega)])
theorem fQ (c : d5) (v : Int) (is : Bool) (h : 0 ≤ c.rule.kind∧c.rule.kind ≤ 3) : CC (nq c v is) := by
  have : c.rule.kind = 0 ∨ c.rule.kind = 1 ∨ c.rule.kind = 2 ∨ c.rule.kind = 3 := by omega
  rcases this with h | h | h | h
  · exact JD c v is h
  · exact JE c v is h
  · exact JF c v is h
  · exact JG c v is h
abbrev KL (f : p5) (r : Rg) : Ct := ⟨60,[(.agg [(dS f.p.name),(dS f.p.clock),(dL 13 bA aC f.p.regs),(dL 27 bX au f.p.mems),(dL 9 cP bB f.p.takes),(dL 16 cN bK f.p.puts),(LI f.s.regs),(dL 1 ab [] f.s.mems),(.v (.sm false (aa .i64) 0 f.regs)),(.v (.sm false (aa .i64) 0 f.mems))]),(.agg [(dS r.name),(i6 r.w),(i6 r.init),(i6 r.next.op),(dS r.next.name),(i6 r.next.k.n),(dS r.next.k.p),(i6 r.next.w.n),(dS r.next.w.p),(dL 7 (eA 2) dE r.next.args),(i6 r.rule.kind),(dS r.rule.src),(i6 r.rule.n)])],false,(i6 (eD f r))⟩
theorem HL (f : p5) (r : Rg) (hrk : 0 ≤ r.rule.kind∧r.rule.kind ≤ 3) (hix : aV f.regs (ay r.name r.rule) = true → 0 ≤ ah 0 f.regs (ay r.name r.rule)∧ah 0 f.regs (ay r.name r.rule) < f.p.regs.length∧ah 0 f.regs (ay r.name r.rule) < f.s.regs.length) : CC (KL f r) := by
 refine ap.vc (V := TT 9 (CC (JC r.name r.rule)∧((cu (i6 0) (fC false ((aa .i64) 0)))∧(false = false → ∀ p ∈ f.regs,((aa .i64) p.2).length = 1))∧TT 5 (CS ((aV f.regs (ay r.name r.rule)) = true) (TT 1 ((True∧(aV f.regs (ay r.name r.rule)) = true)∧TT 5 (CD (r.rule.kind = 1) (TT 4 (IX (ah 0 f.regs (ay r.name r.rule)) f.p.regs.length∧TT 4 ((True∧(((f.p.regs.getD ((ah 0 f.regs (ay r.name r.rule)).toNat) aC).w) == r.w) = (decide ((f.p.regs.getD (ah 0 f.regs (ay r.name r.rule)).toNat aC).w = r.w)))∧TT 3 (CD ((f.p.regs.getD (ah 0 f.regs (ay r.name r.rule)).toNat aC).w = r.w) (TT 4 (IX (ah 0 f.regs (ay r.name r.rule)) f.s.regs.length∧TT 11 (CC (nq (⟨r.init,r.w,r.rule⟩ : d5) (f.s.regs.getD ((ah 0 f.regs (ay r.name r.rule)).toNat) 0) (decide ((f.p.regs.getD (ah 0 f.regs (ay r.name r.rule)).toNat aC).w = r.w)))∧TT 2 ((b6 (⟨r.init,r.w,r.rule⟩ : d5) (f.s.regs.getD ((ah 0 f.regs (ay r.name r.rule)).toNat) 0) (decide ((f.p.regs.getD (ah 0 f.regs (ay r.name r.rule)).toNat aC).w = r.w))) = (eD f r)∧True)))) (TT 9 (CC (nq (⟨r.init,r.w,r.rule⟩ : d5) 0 (decide ((f.p.regs.getD (ah 0 f.regs (ay r.name r.rule)).toNat aC).w = r.w)))∧TT 2 ((b6 (⟨r.init,r.w,r.rule⟩ : d5) 0 (decide ((f.p.regs.getD (ah 0 f.regs (ay r.name r.rule)).toNat aC).w = r.w))) = (eD f r)∧True))))))) (TT 2 (CB (aV f.regs (ay r.name r.rule)) (TT 4 (IX (ah 0 f.regs (ay r.name r.rule)) f.s.regs.length∧TT 11 (CC (nq (⟨r.init,r.w,r.rule⟩ : d5) (f.s.regs.getD ((ah 0 f.regs (ay r.name r.rule)).toNat) 0) (aV f.regs (ay r.name r.rule)))∧TT 2 ((b6 (⟨r.init,r.w,r.rule⟩ : d5) (f.s.regs.getD ((ah 0 f.regs (ay r.name r.rule)).toNat) 0) (aV f.regs (ay r.name r.rule))) = (eD f r)∧True)))) (TT 9 (CC (nq (⟨r.init,r.w,r.rule⟩ : d5) 0 (aV f.regs (ay r.name r.rule)))∧TT 2 ((b6 (⟨r.init,r.w,r.rule⟩ : d5) 0 (aV f.regs (ay r.name r.rule))) = (eD f r)∧True)))))))) (TT 1 ((True∧(aV f.regs (ay r.name r.rule)) = false)∧TT 7 ((aV f.regs (ay r.name r.rule)) = false∧TT 9 (CC (nq (⟨r.init,r.w,r.rule⟩ : d5) 0 (aV f.regs (ay r.name r.rule)))∧TT 2 ((b6 (⟨r.init,r.w,r.rule⟩ : d5) 0 (aV f.regs (ay r.name r.rule))) = (eD f r)∧True)))))))) (.w 1 [(6,(JC r.name r.rule).O)] <| .s 2 ((aV f.regs (ay r.name r.rule)) = true) (.w 2 [(1,.val (dB true))] <| .b 25 (.w 3 [(9,.val (dB (decide ((f.p.regs.getD (ah 0 f.regs (ay r.name r.rule)).toNat aC).w = r.w))))] <| .b 36 (.w 7 [(9,(nq (⟨r.init,r.w,r.rule⟩ : d5) (f.s.regs.getD ((ah 0 f.regs (ay r.name r.rule)).toNat) 0) (decide ((f.p.regs.getD (ah 0 f.regs (ay r.name r.rule)).toNat aC).w = r.w))).O)] <| .e) (.w 7 [(9,(nq (⟨r.init,r.w,r.rule⟩ : d5) 0 (decide ((f.p.regs.getD (ah 0 f.regs (ay r.name r.rule)).toNat aC).w = r.w))).O)] <| .e)) (.b 36 (.w 7 [(9,(nq (⟨r.init,r.w,r.rule⟩ : d5) (f.s.regs.getD ((ah 0 f.regs (ay r.name r.rule)).toNat) 0) (aV f.regs (ay r.name r.rule))).O)] <| .e) (.w 7 [(9,(nq (⟨r.init,r.w,r.rule⟩ : d5) 0 (aV f.regs (ay r.name r.rule))).O)] <| .e))) (.w 2 [(1,.val (dB false))] <| .u 36 (.w 7 [(9,(nq (⟨r.init,r.w,r.rule⟩ : d5) 0 (aV f.regs (ay r.name r.rule))).O)] <| .e))) Try.func60 rfl rfl rfl (by kernel_rfl) ?_
 refine tt ⟨(z3 r.name r.rule),⟨⟨(cu.refl _),(fun _ _ _ => rfl)⟩,tt ⟨fun hs0 => ?_,fun hs0 => ?_⟩⟩⟩
 · have hx := hix hs0
   refine tt ⟨(bT hs0),tt (cd (fun hc25 => ?_) (fun hc25 => ?_))⟩
   · refine tt ⟨ix,tt ⟨⟨oK,(by rfl)⟩,tt (cd (fun hc36 => ?_) (fun hc36 => ?_))⟩⟩
     · refine tt ⟨ix,tt ⟨(fQ (⟨r.init,r.w,r.rule⟩ : d5) (f.s.regs.getD ((ah 0 f.regs (ay r.name r.rule)).toNat) 0) (decide ((f.p.regs.getD (ah 0 f.regs (ay r.name r.rule)).toNat aC).w = r.w)) hrk),tt ⟨?_,oK⟩⟩⟩
       unfold eD mO vy wU; first | (simp_all; done) | (split <;> simp_all)
     · refine tt ⟨(fQ (⟨r.init,r.w,r.rule⟩ : d5) 0 (decide ((f.p.regs.getD (ah 0 f.regs (ay r.name r.rule)).toNat aC).w = r.w)) hrk),tt ⟨?_,oK⟩⟩
       unfold eD mO vy wU; first | (simp_all; done) | (split <;> simp_all)
   · refine tt ⟨fun hc36 => ?_,fun hc36 => ?_⟩
     · refine tt ⟨ix,tt ⟨(fQ (⟨r.init,r.w,r.rule⟩ : d5) (f.s.regs.getD ((ah 0 f.regs (ay r.name r.rule)).toNat) 0) (aV f.regs (ay r.name r.rule)) hrk),tt ⟨?_,oK⟩⟩⟩
       unfold eD mO vy wU; first | (simp_all; done) | (split <;> simp_all)
     · refine tt ⟨(fQ (⟨r.init,r.w,r.rule⟩ : d5) 0 (aV f.regs (ay r.name r.rule)) hrk),tt ⟨?_,oK⟩⟩
       unfold eD mO vy wU; first | (simp_all; done) | (split <;> simp_all)
 · refine tt ⟨(bF hs0),tt ⟨(LQ (by first | exact hs0 | exact Bool.eq_false_iff.2 hs0)),tt ⟨(fQ (⟨r.init,r.w,r.rule⟩ : d5) 0 (aV f.regs (ay r.name r.rule)) hrk),tt ⟨?_,oK⟩⟩⟩⟩
   unfold eD mO vy wU; first | (simp_all; done) | (split <;> simp_all)
def jj {α : Type} (f : Nat → α) (l : List α) (i : Nat) : List α := tab f i ++ l.drop i
theorem eE {α : Type} {f : Nat → α} {l : List α} {i : Nat} (h : i ≤ l.length) : (jj f l i).length = l.length := by
 unfold jj; rw [List.length_append, aL, List.length_drop]; omega
theorem bU {α : Type} {f : Nat → α} {l : List α} {i : Nat} {v : α} (h : i < l.length) (hv : f i = v) : (jj f l i).set i v = jj f l (i + 1) := by
 rw [← hv]; exact FH h
theorem fR {α : Type} {f : Nat → α} {l : List α} {i : Nat} {d : α} (h : i < l.length) (hv : f i = l.getD i d) : jj f l i = jj f l (i + 1) := by
 unfold jj
 rw [rU, List.append_assoc, hv]
 congr 1
 rw [List.drop_eq_getElem_cons h, List.getD, List.getElem?_eq_getElem h]; rfl
theorem dg {α : Type} {f : Nat → α} {l : List α} {i : Nat} (h : l.length ≤ i) : jj f l i = tab f i := Dn h
theorem wV {α : Type} {f : Nat → α} {l : List α} {i j : Nat} {d : α} : (jj f l i).getD j d = if j < i then f j else l.getD j d := by
 unfold jj
 by_cases h : j < i
 ·rw [if_pos h, List.getD, List.getElem?_append_left (by rw [aL]; exact h), ← List.getD, aY h]
 ·rw [if_neg h, List.getD, List.getElem?_append_right (by rw [aL]; omega), aL, List.getElem?_drop, ← List.getD]
  congr 1; omega
theorem oz {α : Type} {f : Nat → α} {enc : α → List V} {i : Nat} (h : i < 137438953472) : (tab f i).length + ([f i].map enc).length ≤ 137438953472 ∧ (tab f i).map enc ++ [f i].map enc = (tab f (i + 1)).map enc := by
 refine ⟨by rw [aL]; simp; omega, ?_⟩
 rw [rU, List.map_append]
theorem cC {α : Type} {n i : Nat} {a : α} : (List.replicate n a).getD i a = a := by
 rw [List.getD, List.getElem?_replicate]; split <;> rfl
section
variable {p : Pr} {s : Ps} {hs : List Hd} {rs : List Bool} {d : List Int} {i : Nat}
theorem Dv : (mN p).getD i 0 = 0 := cC
theorem kX : (mN p).length = p.takes.length := by simp [mN]
theorem FO (h : il p s hs rs = false) : bi p s hs rs = ⟨false, s, List.replicate p.takes.length false, List.replicate p.puts.length cG⟩ := if_neg (by rw [h]; simp)
theorem FP (h : il p s hs rs = true) : bi p s hs rs = ⟨true, dP p s (bN p s hs), tab (Dq p s hs) p.takes.length, tab (Bx p s hs) p.puts.length⟩ := if_pos h
theorem t6 {a b : Bool} (h1 : a = cJ (rV p s hs) p.takes.length) (h2 : b = (a && cJ (rX p s hs rs) p.puts.length)) : il p s hs rs = b := by
 rw [h2, h1]; rfl
theorem vz (hp : im p) (hi : i < p.takes.length) : dA (lK p) (mu p i).when = some 1 ∧ eI (mu p i).when ≤ 3 := ⟨(BB (s := aX) hp hi [] []).2, (hp.tw i hi).2.2⟩
theorem wW (p : Pr) : bo p = ⟨tab (fun i => (Dp p i).init) p.regs.length, tab (fun i => List.replicate (jX p i).words.toNat 0) p.mems.length⟩ := by
 unfold bo; rw [zR (d := aC), zR (d := au)]
end
end Go.Proofs.Ytnlmlkbaflmgcaa
