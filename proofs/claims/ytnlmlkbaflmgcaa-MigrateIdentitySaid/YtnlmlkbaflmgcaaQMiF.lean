/-
  Package migrate: what is kept.
-/
import Derived.Test.YtnlmlkbaflmgcaaQMiE
import Derived.Test.YtnlmlkbaflmgcaaQMiK
namespace Go.Proofs.Ytnlmlkbaflmgcaa
open Go.RowKit
set_option linter.unusedVariables false
set_option linter.unusedSimpArgs false
set_option maxRecDepth 100000
abbrev KP (r q : Rg) : Ct := ⟨67,[(.agg [(dS q.name),(i6 q.w),(i6 q.init),(i6 q.next.op),(dS q.next.name),(i6 q.next.k.n),(dS q.next.k.p),(i6 q.next.w.n),(dS q.next.w.p),(dL 7 (eA 2) dE q.next.args),(i6 q.rule.kind),(dS q.rule.src),(i6 q.rule.n)]),(.iptr [(.str r.name),(.int .i64 r.w),(.int .i64 r.init),(.int .i64 r.next.op),(.str r.next.name),(.int .i64 r.next.k.n),(.str r.next.k.p),(.int .i64 r.next.w.n),(.str r.next.w.p),(.sl 7 (eA 2) dE r.next.args),(.int .i64 r.rule.kind),(.str r.rule.src),(.int .i64 r.rule.n)] 0)],false,(dB (dX r q))⟩
theorem KQ (r q : Rg) : CC (KP r q) := by
 refine aq.vc (V := TT 2 (CS ((q.name.toList == r.name.toList) = true) (CS (q.w = r.w) (TT 5 ((True∧(q.name.toList == r.name.toList) = true)∧TT 6 ((True∧(decide (q.w = r.w)) = true)∧TT 7 ((q.rule.kind == 1) = (dX r q)∧True)))) (TT 5 ((True∧(q.name.toList == r.name.toList) = true)∧TT 6 ((True∧(decide (q.w = r.w)) = false)∧TT 7 (false = (dX r q)∧True))))) (TT 5 ((True∧(q.name.toList == r.name.toList) = false)∧TT 14 (false = (dX r q)∧True))))) (.s 1 ((q.name.toList == r.name.toList) = true) (.s 1 (q.w = r.w) (.w 1 [(5,.val (dB true)),(12,.val (dB true))] <| .e) (.w 1 [(5,.val (dB true)),(12,.val (dB false))] <| .e)) (.w 1 [(5,.val (dB false))] <| .e)) Try.func67 rfl rfl rfl (by kernel_rfl) ?_
 refine tt ⟨fun hs0 => ?_,fun hs0 => ?_⟩
 · refine ⟨fun hs1 => ?_,fun hs1 => ?_⟩
   · refine tt ⟨(bT hs0),tt ⟨(vT hs1),tt ⟨?_,oK⟩⟩⟩
     unfold dX; simp_all <;> rfl
   · refine tt ⟨(bT hs0),tt ⟨(vF hs1),tt ⟨?_,oK⟩⟩⟩
     unfold dX; simp_all <;> rfl
 · refine tt ⟨(bF hs0),tt ⟨?_,oK⟩⟩
   unfold dX; simp_all <;> rfl
abbrev KR (l : List Rg) (r : Rg) : Ct := ⟨85,[(dL 13 bA aK l),(.fn (.func 67) [] [(.iptr [(.str r.name),(.int .i64 r.w),(.int .i64 r.init),(.int .i64 r.next.op),(.str r.next.name),(.int .i64 r.next.k.n),(.str r.next.k.p),(.int .i64 r.next.w.n),(.str r.next.w.p),(.sl 7 (eA 2) dE r.next.args),(.int .i64 r.rule.kind),(.str r.rule.src),(.int .i64 r.rule.n)] 0)])],false,(i6 (cu (fun i => dX r (l.getD i aK)) l.length))⟩
abbrev lK (l : List Rg) (r : Rg) : Lp (Nat) := gF [0,1,7,8] 0 (fun (i : Nat) => ⟨[(0,(dL 13 bA aK l)),(1,(.fn (.func 67) [] [(.iptr [(.str r.name),(.int .i64 r.w),(.int .i64 r.init),(.int .i64 r.next.op),(.str r.next.name),(.int .i64 r.next.k.n),(.str r.next.k.p),(.int .i64 r.next.w.n),(.str r.next.w.p),(.sl 7 (eA 2) dE r.next.args),(.int .i64 r.rule.kind),(.str r.rule.src),(.int .i64 r.rule.n)] 0)])),(7,(i6 (l.length : Int))),(8,(i6 (i : Int)))],[]⟩) (fun (i : Nat) => i ≤ l.length∧∀ z,z < i → dX r (l.getD z aK) = false) (fun (i : Nat) => l.length - i)
theorem HW (l : List Rg) (r : Rg) (hl : l.length ≤ 9223372036854775807) : CC (KR l r) := by
 refine aq.vc (V := TT 4 (GO (lK l r) 0 (∀ i,(lK l r).inv i → TT 1 (CD ((i : Int) < (l.length : Int)) (TT 5 (IX (i : Int) l.length∧TT 1 (CC (KP r (l.getD i aK))∧CB (dX r (l.getD i aK)) (TT 3 ((i : Int) = (cu (fun i => dX r (l.getD i aK)) l.length)∧True)) (W6 ((i + 1 : Nat) : Int)∧TT 1 (AG (lK l r) i (i + 1)))))) (TT 2 ((-1) = (cu (fun i => dX r (l.getD i aK)) l.length)∧True)))))) (.l (lK l r) 0 (fun i => .b 9 (.w 4 [(5,(KP r (l.getD i aK)).O)] <| .b 16 (.e) (.w 6 [(0,.val (i6 ((i + 1 : Nat) : Int)))] <| .e)) (.e))) Try.func85 rfl rfl rfl (by kernel_rfl) ?_
 refine tt ⟨rfl,⟨by omega,fun z hz => by omega⟩,?_⟩
 intro i hinv
 obtain ⟨hi,h3⟩ := hinv
 refine tt (cd (fun hc9 => ?_) (fun hc9 => ?_))
 · refine tt ⟨ix,tt ⟨(KQ r (l.getD i aK)),⟨fun hc16 => ?_,fun hc16 => ?_⟩⟩⟩
   · refine tt ⟨?_,oK⟩
     first | exact (dD (f := fun i => dX r (l.getD i aK)) hc16 h3 (by omega)).symm | exact (fI (f := fun i => dX r (l.getD i aK)) (fun z hz => h3 z (by omega))).symm
   · refine ⟨w6,tt ⟨(i + 1),rfl,?_,(?_ : l.length - (i + 1) < l.length - i)⟩⟩
     · exact ⟨by omega,bc h3 (by simpa using hc16)⟩
     · omega
 · refine tt ⟨?_,oK⟩
   first | exact (dD (f := fun i => dX r (l.getD i aK)) hc16 h3 (by omega)).symm | exact (fI (f := fun i => dX r (l.getD i aK)) (fun z hz => h3 z (by omega))).symm
abbrev KS (l : List Rg) (r : Rg) : Ct := ⟨66,[(dL 13 bA aK l),(.fn (.func 67) [] [(.iptr [(.str r.name),(.int .i64 r.w),(.int .i64 r.init),(.int .i64 r.next.op),(.str r.next.name),(.int .i64 r.next.k.n),(.str r.next.k.p),(.int .i64 r.next.w.n),(.str r.next.w.p),(.sl 7 (eA 2) dE r.next.args),(.int .i64 r.rule.kind),(.str r.rule.src),(.int .i64 r.rule.n)] 0)])],false,(dB (D1 l r))⟩
theorem HX (l : List Rg) (r : Rg) (hl : l.length ≤ 9223372036854775807) : CC (KS l r) := by
 refine aq.vc (V := TT 3 (CC (KR l r)∧TT 3 ((decide ((cu (fun i => dX r (l.getD i aK)) l.length) ≥ 0)) = (D1 l r)∧True))) (.w 1 [(2,(KR l r).O)] <| .e) Try.func66 rfl rfl rfl (by kernel_rfl) ?_
 refine tt ⟨(HW l r om),tt ⟨?_,oK⟩⟩
 exact jR
abbrev KT (r q : Mm) : Ct := ⟨69,[(.agg [(dS q.name),(i6 q.w),(i6 q.words),(i6 q.enable.op),(dS q.enable.name),(i6 q.enable.k.n),(dS q.enable.k.p),(i6 q.enable.w.n),(dS q.enable.w.p),(dL 7 (eA 2) dE q.enable.args),(i6 q.addr.op),(dS q.addr.name),(i6 q.addr.k.n),(dS q.addr.k.p),(i6 q.addr.w.n),(dS q.addr.w.p),(dL 7 (eA 2) dE q.addr.args),(i6 q.data.op),(dS q.data.name),(i6 q.data.k.n),(dS q.data.k.p),(i6 q.data.w.n),(dS q.data.w.p),(dL 7 (eA 2) dE q.data.args),(i6 q.rule.kind),(dS q.rule.src),(i6 q.rule.n)]),(.iptr [(.str r.name),(.int .i64 r.w),(.int .i64 r.words),(.int .i64 r.enable.op),(.str r.enable.name),(.int .i64 r.enable.k.n),(.str r.enable.k.p),(.int .i64 r.enable.w.n),(.str r.enable.w.p),(.sl 7 (eA 2) dE r.enable.args),(.int .i64 r.addr.op),(.str r.addr.name),(.int .i64 r.addr.k.n),(.str r.addr.k.p),(.int .i64 r.addr.w.n),(.str r.addr.w.p),(.sl 7 (eA 2) dE r.addr.args),(.int .i64 r.data.op),(.str r.data.name),(.int .i64 r.data.k.n),(.str r.data.k.p),(.int .i64 r.data.w.n),(.str r.data.w.p),(.sl 7 (eA 2) dE r.data.args),(.int .i64 r.rule.kind),(.str r.rule.src),(.int .i64 r.rule.n)] 0)],false,(dB (dr r q))⟩
theorem KU (r q : Mm) : CC (KT r q) := by
 refine aq.vc (V := TT 2 (CS ((q.name.toList == r.name.toList) = true) (CS (q.w = r.w) (CS (q.words = r.words) (TT 5 ((True∧(q.name.toList == r.name.toList) = true)∧TT 6 ((True∧(decide (q.w = r.w)) = true)∧TT 6 ((True∧(decide (q.words = r.words)) = true)∧TT 7 ((q.rule.kind == 1) = (dr r q)∧True))))) (TT 5 ((True∧(q.name.toList == r.name.toList) = true)∧TT 6 ((True∧(decide (q.w = r.w)) = true)∧TT 6 ((True∧(decide (q.words = r.words)) = false)∧TT 7 (false = (dr r q)∧True)))))) (TT 5 ((True∧(q.name.toList == r.name.toList) = true)∧TT 6 ((True∧(decide (q.w = r.w)) = false)∧TT 14 (false = (dr r q)∧True))))) (TT 5 ((True∧(q.name.toList == r.name.toList) = false)∧TT 21 (false = (dr r q)∧True))))) (.s 1 ((q.name.toList == r.name.toList) = true) (.s 1 (q.w = r.w) (.s 1 (q.words = r.words) (.w 1 [(5,.val (dB true)),(12,.val (dB true)),(19,.val (dB true))] <| .e) (.w 1 [(5,.val (dB true)),(12,.val (dB true)),(19,.val (dB false))] <| .e)) (.w 1 [(5,.val (dB true)),(12,.val (dB false))] <| .e)) (.w 1 [(5,.val (dB false))] <| .e)) Try.func69 rfl rfl rfl (by kernel_rfl) ?_
 refine tt ⟨fun hs0 => ?_,fun hs0 => ?_⟩
 · refine ⟨fun hs1 => ?_,fun hs1 => ?_⟩
   · refine ⟨fun hs2 => ?_,fun hs2 => ?_⟩
     · refine tt ⟨(bT hs0),tt ⟨(vT hs1),tt ⟨(vT hs2),tt ⟨?_,oK⟩⟩⟩⟩
       unfold dr; simp_all <;> rfl
     · refine tt ⟨(bT hs0),tt ⟨(vT hs1),tt ⟨(vF hs2),tt ⟨?_,oK⟩⟩⟩⟩
       unfold dr; simp_all <;> rfl
   · refine tt ⟨(bT hs0),tt ⟨(vF hs1),tt ⟨?_,oK⟩⟩⟩
     unfold dr; simp_all <;> rfl
 · refine tt ⟨(bF hs0),tt ⟨?_,oK⟩⟩
   unfold dr; simp_all <;> rfl
abbrev KV (l : List Mm) (r : Mm) : Ct := ⟨86,[(dL 27 bV ax l),(.fn (.func 69) [] [(.iptr [(.str r.name),(.int .i64 r.w),(.int .i64 r.words),(.int .i64 r.enable.op),(.str r.enable.name),(.int .i64 r.enable.k.n),(.str r.enable.k.p),(.int .i64 r.enable.w.n),(.str r.enable.w.p),(.sl 7 (eA 2) dE r.enable.args),(.int .i64 r.addr.op),(.str r.addr.name),(.int .i64 r.addr.k.n),(.str r.addr.k.p),(.int .i64 r.addr.w.n),(.str r.addr.w.p),(.sl 7 (eA 2) dE r.addr.args),(.int .i64 r.data.op),(.str r.data.name),(.int .i64 r.data.k.n),(.str r.data.k.p),(.int .i64 r.data.w.n),(.str r.data.w.p),(.sl 7 (eA 2) dE r.data.args),(.int .i64 r.rule.kind),(.str r.rule.src),(.int .i64 r.rule.n)] 0)])],false,(i6 (cu (fun i => dr r (l.getD i ax)) l.length))⟩
abbrev lL (l : List Mm) (r : Mm) : Lp (Nat) := gF [0,1,7,8] 0 (fun (i : Nat) => ⟨[(0,(dL 27 bV ax l)),(1,(.fn (.func 69) [] [(.iptr [(.str r.name),(.int .i64 r.w),(.int .i64 r.words),(.int .i64 r.enable.op),(.str r.enable.name),(.int .i64 r.enable.k.n),(.str r.enable.k.p),(.int .i64 r.enable.w.n),(.str r.enable.w.p),(.sl 7 (eA 2) dE r.enable.args),(.int .i64 r.addr.op),(.str r.addr.name),(.int .i64 r.addr.k.n),(.str r.addr.k.p),(.int .i64 r.addr.w.n),(.str r.addr.w.p),(.sl 7 (eA 2) dE r.addr.args),(.int .i64 r.data.op),(.str r.data.name),(.int .i64 r.data.k.n),(.str r.data.k.p),(.int .i64 r.data.w.n),(.str r.data.w.p),(.sl 7 (eA 2) dE r.data.args),(.int .i64 r.rule.kind),(.str r.rule.src),(.int .i64 r.rule.n)] 0)])),(7,(i6 (l.length : Int))),(8,(i6 (i : Int)))],[]⟩) (fun (i : Nat) => i ≤ l.length∧∀ z,z < i → dr r (l.getD z ax) = false) (fun (i : Nat) => l.length - i)
theorem HY (l : List Mm) (r : Mm) (hl : l.length ≤ 9223372036854775807) : CC (KV l r) := by
 refine aq.vc (V := TT 4 (GO (lL l r) 0 (∀ i,(lL l r).inv i → TT 1 (CD ((i : Int) < (l.length : Int)) (TT 5 (IX (i : Int) l.length∧TT 1 (CC (KT r (l.getD i ax))∧CB (dr r (l.getD i ax)) (TT 3 ((i : Int) = (cu (fun i => dr r (l.getD i ax)) l.length)∧True)) (W6 ((i + 1 : Nat) : Int)∧TT 1 (AG (lL l r) i (i + 1)))))) (TT 2 ((-1) = (cu (fun i => dr r (l.getD i ax)) l.length)∧True)))))) (.l (lL l r) 0 (fun i => .b 9 (.w 4 [(5,(KT r (l.getD i ax)).O)] <| .b 16 (.e) (.w 6 [(0,.val (i6 ((i + 1 : Nat) : Int)))] <| .e)) (.e))) Try.func86 rfl rfl rfl (by kernel_rfl) ?_
 refine tt ⟨rfl,⟨by omega,fun z hz => by omega⟩,?_⟩
 intro i hinv
 obtain ⟨hi,h3⟩ := hinv
 refine tt (cd (fun hc9 => ?_) (fun hc9 => ?_))
 · refine tt ⟨ix,tt ⟨(KU r (l.getD i ax)),⟨fun hc16 => ?_,fun hc16 => ?_⟩⟩⟩
   · refine tt ⟨?_,oK⟩
     first | exact (dD (f := fun i => dr r (l.getD i ax)) hc16 h3 (by omega)).symm | exact (fI (f := fun i => dr r (l.getD i ax)) (fun z hz => h3 z (by omega))).symm
   · refine ⟨w6,tt ⟨(i + 1),rfl,?_,(?_ : l.length - (i + 1) < l.length - i)⟩⟩
     · exact ⟨by omega,bc h3 (by simpa using hc16)⟩
     · omega
 · refine tt ⟨?_,oK⟩
   first | exact (dD (f := fun i => dr r (l.getD i ax)) hc16 h3 (by omega)).symm | exact (fI (f := fun i => dr r (l.getD i ax)) (fun z hz => h3 z (by omega))).symm
abbrev KW (l : List Mm) (r : Mm) : Ct := ⟨68,[(dL 27 bV ax l),(.fn (.func 69) [] [(.iptr [(.str r.name),(.int .i64 r.w),(.int .i64 r.words),(.int .i64 r.enable.op),(.str r.enable.name),(.int .i64 r.enable.k.n),(.str r.enable.k.p),(.int .i64 r.enable.w.n),(.str r.enable.w.p),(.sl 7 (eA 2) dE r.enable.args),(.int .i64 r.addr.op),(.str r.addr.name),(.int .i64 r.addr.k.n),(.str r.addr.k.p),(.int .i64 r.addr.w.n),(.str r.addr.w.p),(.sl 7 (eA 2) dE r.addr.args),(.int .i64 r.data.op),(.str r.data.name),(.int .i64 r.data.k.n),(.str r.data.k.p),(.int .i64 r.data.w.n),(.str r.data.w.p),(.sl 7 (eA 2) dE r.data.args),(.int .i64 r.rule.kind),(.str r.rule.src),(.int .i64 r.rule.n)] 0)])],false,(dB (D2 l r))⟩
theorem HZ (l : List Mm) (r : Mm) (hl : l.length ≤ 9223372036854775807) : CC (KW l r) := by
 refine aq.vc (V := TT 3 (CC (KV l r)∧TT 3 ((decide ((cu (fun i => dr r (l.getD i ax)) l.length) ≥ 0)) = (D2 l r)∧True))) (.w 1 [(2,(KV l r).O)] <| .e) Try.func68 rfl rfl rfl (by kernel_rfl) ?_
 refine tt ⟨(HY l r om),tt ⟨?_,oK⟩⟩
 exact jR
abbrev KX (p q : Pr) : Ct := ⟨39,[(.agg [(dS p.name),(dS p.clock),(dL 13 bA aK p.regs),(dL 27 bV ax p.mems),(dL 9 dJ bO p.takes),(dL 16 dz bU p.puts)]),(.agg [(dS q.name),(dS q.clock),(dL 13 bA aK q.regs),(dL 27 bV ax q.mems),(dL 9 dJ bO q.takes),(dL 16 dz bU q.puts)])],false,(dB (fv p q))⟩
abbrev lM (p : Pr) (q : Pr) : Lp (Nat) := gF [2,3,10,11,12] 2 (fun (i : Nat) => ⟨[(2,(.ptr 0 0 0 0)),(3,(.ptr 1 0 0 0)),(10,(dL 13 bA aK p.regs)),(11,(i6 (p.regs.length : Int))),(12,(i6 (i : Int)))],[(.var 80 [(dS p.name),(dS p.clock),(dL 13 bA aK p.regs),(dL 27 bV ax p.mems),(dL 9 dJ bO p.takes),(dL 16 dz bU p.puts)]),(.var 80 [(dS q.name),(dS q.clock),(dL 13 bA aK q.regs),(dL 27 bV ax q.mems),(dL 9 dJ bO q.takes),(dL 16 dz bU q.puts)])]⟩) (fun (i : Nat) => i ≤ p.regs.length∧∀ z,z < i → D1 q.regs (p.regs.getD z aK) = true) (fun (i : Nat) => p.regs.length - i)
abbrev lN (p : Pr) (q : Pr) : Lp (Nat) := gF [3,23,24,25] 2 (fun (j : Nat) => ⟨[(3,(.ptr 1 0 0 0)),(23,(dL 27 bV ax p.mems)),(24,(i6 (p.mems.length : Int))),(25,(i6 (j : Int)))],[(.var 80 [(dS p.name),(dS p.clock),(dL 13 bA aK p.regs),(dL 27 bV ax p.mems),(dL 9 dJ bO p.takes),(dL 16 dz bU p.puts)]),(.var 80 [(dS q.name),(dS q.clock),(dL 13 bA aK q.regs),(dL 27 bV ax q.mems),(dL 9 dJ bO q.takes),(dL 16 dz bU q.puts)])]⟩) (fun (j : Nat) => j ≤ p.mems.length∧∀ z,z < j → D2 q.mems (p.mems.getD z ax) = true) (fun (j : Nat) => p.mems.length - j)
theorem H0 (p q : Pr) (h1 : p.regs.length ≤ 1000000) (h2 : p.mems.length ≤ 1000000) (h3 : q.regs.length ≤ 1000000) (h4 : q.mems.length ≤ 1000000) : CC (KX p q) := by
 refine aq.vc (V := TT 7 (GO (lM p q) 0 (∀ i,(lM p q).inv i → TT 1 (CD ((i : Int) < (p.regs.length : Int)) (IX (i : Int) p.regs.length∧TT 6 (CK (KS q.regs (p.regs.getD i aK))∧TT 1 (CB (!(D1 q.regs (p.regs.getD i aK))) (TT 2 (false = (fv p q)∧True)) (W6 ((i + 1 : Nat) : Int)∧TT 1 (AG (lM p q) i (i + 1)))))) (TT 4 (GO (lN p q) 0 (∀ j,(lN p q).inv j → TT 1 (CD ((j : Int) < (p.mems.length : Int)) (IX (j : Int) p.mems.length∧TT 6 (CK (KW q.mems (p.mems.getD j ax))∧TT 1 (CB (!(D2 q.mems (p.mems.getD j ax))) (TT 2 (false = (fv p q)∧True)) (W6 ((j + 1 : Nat) : Int)∧TT 1 (AG (lN p q) j (j + 1)))))) (TT 2 (true = (fv p q)∧True)))))))))) (.l (lM p q) 0 (fun i => .b 13 (.w 4 [(3,(KS q.regs (p.regs.getD i aK)).O')] <| .b 20 (.e) (.w 6 [(0,.val (i6 ((i + 1 : Nat) : Int)))] <| .e)) (.l (lN p q) 0 (fun j => .b 26 (.w 10 [(3,(KW q.mems (p.mems.getD j ax)).O')] <| .b 33 (.e) (.w 12 [(0,.val (i6 ((j + 1 : Nat) : Int)))] <| .e)) (.e))))) Try.func39 rfl rfl rfl (by kernel_rfl) ?_
 refine tt ⟨rfl,⟨by omega,fun z hz => by omega⟩,?_⟩
 intro i hinv
 obtain ⟨hi,k1⟩ := hinv
 refine tt (cd (fun hc13 => ?_) (fun hc13 => ?_))
 · refine ⟨ix,tt ⟨⟨kL _ rfl,(HX q.regs (p.regs.getD i aK) om)⟩,tt ⟨fun hc20 => ?_,fun hc20 => ?_⟩⟩⟩
   · refine tt ⟨?_,oK⟩
     first | exact (pK (i := i) (by omega) (by simpa using hc20)).symm | exact (pL (i := j) (by omega) (by simpa using hc33)).symm | exact (lJ (fun z hz => k1 z (by omega)) (fun z hz => k2 z (by omega))).symm
   · refine ⟨w6,tt ⟨(i + 1),rfl,?_,(?_ : p.regs.length - (i + 1) < p.regs.length - i)⟩⟩
     · exact ⟨by omega,bc k1 (by simpa using hc20)⟩
     · omega
 · refine tt ⟨rfl,⟨by omega,fun z hz => by omega⟩,?_⟩
   intro j hinv
   obtain ⟨hj,k2⟩ := hinv
   refine tt (cd (fun hc26 => ?_) (fun hc26 => ?_))
   · refine ⟨ix,tt ⟨⟨kL _ rfl,(HZ q.mems (p.mems.getD j ax) om)⟩,tt ⟨fun hc33 => ?_,fun hc33 => ?_⟩⟩⟩
     · refine tt ⟨?_,oK⟩
       first | exact (pK (i := i) (by omega) (by simpa using hc20)).symm | exact (pL (i := j) (by omega) (by simpa using hc33)).symm | exact (lJ (fun z hz => k1 z (by omega)) (fun z hz => k2 z (by omega))).symm
     · refine ⟨w6,tt ⟨(j + 1),rfl,?_,(?_ : p.mems.length - (j + 1) < p.mems.length - j)⟩⟩
       · exact ⟨by omega,bc k2 (by simpa using hc33)⟩
       · omega
   · refine tt ⟨?_,oK⟩
     first | exact (pK (i := i) (by omega) (by simpa using hc20)).symm | exact (pL (i := j) (by omega) (by simpa using hc33)).symm | exact (lJ (fun z hz => k1 z (by omega)) (fun z hz => k2 z (by omega))).symm
end Go.Proofs.Ytnlmlkbaflmgcaa
