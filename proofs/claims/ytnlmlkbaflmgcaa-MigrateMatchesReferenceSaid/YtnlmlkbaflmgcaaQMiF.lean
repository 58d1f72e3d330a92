/-
  Package migrate: what is kept.
-/
import Derived.Test.YtnlmlkbaflmgcaaQMiE
import Derived.Test.YtnlmlkbaflmgcaaQMiK
namespace Go.Proofs.Ytnlmlkbaflmgcaa
open Go.RowKit
set_option linter.unusedVariables false
set_option linter.unusedSimpArgs false
set_option maxRecDepth 100000
abbrev KU (r q : Rg) : Ct := ⟨67,[(.agg [(dS q.name),(i6 q.w),(i6 q.init),(i6 q.next.op),(dS q.next.name),(i6 q.next.k.n),(dS q.next.k.p),(i6 q.next.w.n),(dS q.next.w.p),(dL 7 (eA 2) dE q.next.args),(i6 q.rule.kind),(dS q.rule.src),(i6 q.rule.n)]),(.iptr [(.str r.name),(.int .i64 r.w),(.int .i64 r.init),(.int .i64 r.next.op),(.str r.next.name),(.int .i64 r.next.k.n),(.str r.next.k.p),(.int .i64 r.next.w.n),(.str r.next.w.p),(.sl 7 (eA 2) dE r.next.args),(.int .i64 r.rule.kind),(.str r.rule.src),(.int .i64 r.rule.n)] 0)],false,(dB (d8 r q))⟩
theorem KV (r q : Rg) : CC (KU r q) := by
 refine ap.vc (V := TT 2 (CS ((q.name.toList == r.name.toList) = true) (CS (q.w = r.w) (TT 5 ((True∧(q.name.toList == r.name.toList) = true)∧TT 6 ((True∧(decide (q.w = r.w)) = true)∧TT 7 ((q.rule.kind == 1) = (d8 r q)∧True)))) (TT 5 ((True∧(q.name.toList == r.name.toList) = true)∧TT 6 ((True∧(decide (q.w = r.w)) = false)∧TT 7 (false = (d8 r q)∧True))))) (TT 5 ((True∧(q.name.toList == r.name.toList) = false)∧TT 14 (false = (d8 r q)∧True))))) (.s 1 ((q.name.toList == r.name.toList) = true) (.s 1 (q.w = r.w) (.w 1 [(5,.val (dB true)),(12,.val (dB true))] <| .e) (.w 1 [(5,.val (dB true)),(12,.val (dB false))] <| .e)) (.w 1 [(5,.val (dB false))] <| .e)) Try.func67 rfl rfl rfl (by kernel_rfl) ?_
 refine tt ⟨fun hs0 => ?_,fun hs0 => ?_⟩
 · refine ⟨fun hs1 => ?_,fun hs1 => ?_⟩
   · refine tt ⟨(bT hs0),tt ⟨(vT hs1),tt ⟨?_,oK⟩⟩⟩
     unfold d8; simp_all <;> rfl
   · refine tt ⟨(bT hs0),tt ⟨(vF hs1),tt ⟨?_,oK⟩⟩⟩
     unfold d8; simp_all <;> rfl
 · refine tt ⟨(bF hs0),tt ⟨?_,oK⟩⟩
   unfold d8; simp_all <;> rfl
abbrev KW (l : List Rg) (r : Rg) : Ct := ⟨85,[(dL 13 bA aC l),(.fn (.func 67) [] [(.iptr [(.str r.name),(.int .i64 r.w),(.int .i64 r.init),(.int .i64 r.next.op),(.str r.next.name),(.int .i64 r.next.k.n),(.str r.next.k.p),(.int .i64 r.next.w.n),(.str r.next.w.p),(.sl 7 (eA 2) dE r.next.args),(.int .i64 r.rule.kind),(.str r.rule.src),(.int .i64 r.rule.n)] 0)])],false,(i6 (af (fun i => d8 r (l.getD i aC)) l.length))⟩
abbrev lP (l : List Rg) (r : Rg) : Lp (Nat) := fB [0,1,7,8] 0 (fun (i : Nat) => ⟨[(0,(dL 13 bA aC l)),(1,(.fn (.func 67) [] [(.iptr [(.str r.name),(.int .i64 r.w),(.int .i64 r.init),(.int .i64 r.next.op),(.str r.next.name),(.int .i64 r.next.k.n),(.str r.next.k.p),(.int .i64 r.next.w.n),(.str r.next.w.p),(.sl 7 (eA 2) dE r.next.args),(.int .i64 r.rule.kind),(.str r.rule.src),(.int .i64 r.rule.n)] 0)])),(7,(i6 (l.length : Int))),(8,(i6 (i : Int)))],[]⟩) (fun (i : Nat) => i ≤ l.length∧∀ z,z < i → d8 r (l.getD z aC) = false) (fun (i : Nat) => l.length - i)
theorem HP (l : List Rg) (r : Rg) (hl : l.length ≤ 9223372036854775807) : CC (KW l r) := by
 refine ap.vc (V := TT 4 (GO (lP l r) 0 (∀ i,(lP l r).inv i → TT 1 (CD ((i : Int) < (l.length : Int)) (TT 5 (IX (i : Int) l.length∧TT 1 (CC (KU r (l.getD i aC))∧CB (d8 r (l.getD i aC)) (TT 3 ((i : Int) = (af (fun i => d8 r (l.getD i aC)) l.length)∧True)) (W6 ((i + 1 : Nat) : Int)∧TT 1 (AG (lP l r) i (i + 1)))))) (TT 2 ((-1) = (af (fun i => d8 r (l.getD i aC)) l.length)∧True)))))) (.l (lP l r) 0 (fun i => .b 9 (.w 4 [(5,(KU r (l.getD i aC)).O)] <| .b 16 (.e) (.w 6 [(0,.val (i6 ((i + 1 : Nat) : Int)))] <| .e)) (.e))) Try.func85 rfl rfl rfl (by kernel_rfl) ?_
 refine tt ⟨rfl,⟨by omega,fun z hz => by omega⟩,?_⟩
 intro i hinv
 obtain ⟨hi,h3⟩ := hinv
 refine tt (cd (fun hc9 => ?_) (fun hc9 => ?_))
 · refine tt ⟨ix,tt ⟨(KV r (l.getD i aC)),⟨fun hc16 => ?_,fun hc16 => ?_⟩⟩⟩
   · refine tt ⟨?_,oK⟩
     first | exact (bq (f := fun i => d8 r (l.getD i aC)) hc16 h3 (by omega)).symm | exact (bO (f := fun i => d8 r (l.getD i aC)) (fun z hz => h3 z (by omega))).symm
   · refine ⟨w6,tt ⟨(i + 1),rfl,?_,(?_ : l.length - (i + 1) < l.length - i)⟩⟩
     · exact ⟨by omega,aR h3 (by simpa using hc16)⟩
     · omega
 · refine tt ⟨?_,oK⟩
   first | exact (bq (f := fun i => d8 r (l.getD i aC)) hc16 h3 (by omega)).symm | exact (bO (f := fun i => d8 r (l.getD i aC)) (fun z hz => h3 z (by omega))).symm
abbrev KX (l : List Rg) (r : Rg) : Ct := ⟨66,[(dL 13 bA aC l),(.fn (.func 67) [] [(.iptr [(.str r.name),(.int .i64 r.w),(.int .i64 r.init),(.int .i64 r.next.op),(.str r.next.name),(.int .i64 r.next.k.n),(.str r.next.k.p),(.int .i64 r.next.w.n),(.str r.next.w.p),(.sl 7 (eA 2) dE r.next.args),(.int .i64 r.rule.kind),(.str r.rule.src),(.int .i64 r.rule.n)] 0)])],false,(dB (DQ l r))⟩
theorem HQ (l : List Rg) (r : Rg) (hl : l.length ≤ 9223372036854775807) : CC (KX l r) := by
 refine ap.vc (V := TT 3 (CC (KW l r)∧TT 3 ((decide ((af (fun i => d8 r (l.getD i aC)) l.length) ≥ 0)) = (DQ l r)∧True))) (.w 1 [(2,(KW l r).O)] <| .e) Try.func66 rfl rfl rfl (by kernel_rfl) ?_
 refine tt ⟨(HP l r om),tt ⟨?_,oK⟩⟩
 exact j7
abbrev KY (r q : Mm) : Ct := ⟨69,[(.agg [(dS q.name),(i6 q.w),(i6 q.words),(i6 q.enable.op),(dS q.enable.name),(i6 q.enable.k.n),(dS q.enable.k.p),(i6 q.enable.w.n),(dS q.enable.w.p),(dL 7 (eA 2) dE q.enable.args),(i6 q.addr.op),(dS q.addr.name),(i6 q.addr.k.n),(dS q.addr.k.p),(i6 q.addr.w.n),(dS q.addr.w.p),(dL 7 (eA 2) dE q.addr.args),(i6 q.data.op),(dS q.data.name),(i6 q.data.k.n),(dS q.data.k.p),(i6 q.data.w.n),(dS q.data.w.p),(dL 7 (eA 2) dE q.data.args),(i6 q.rule.kind),(dS q.rule.src),(i6 q.rule.n)]),(.iptr [(.str r.name),(.int .i64 r.w),(.int .i64 r.words),(.int .i64 r.enable.op),(.str r.enable.name),(.int .i64 r.enable.k.n),(.str r.enable.k.p),(.int .i64 r.enable.w.n),(.str r.enable.w.p),(.sl 7 (eA 2) dE r.enable.args),(.int .i64 r.addr.op),(.str r.addr.name),(.int .i64 r.addr.k.n),(.str r.addr.k.p),(.int .i64 r.addr.w.n),(.str r.addr.w.p),(.sl 7 (eA 2) dE r.addr.args),(.int .i64 r.data.op),(.str r.data.name),(.int .i64 r.data.k.n),(.str r.data.k.p),(.int .i64 r.data.w.n),(.str r.data.w.p),(.sl 7 (eA 2) dE r.data.args),(.int .i64 r.rule.kind),(.str r.rule.src),(.int .i64 r.rule.n)] 0)],false,(dB (dD r q))⟩
theorem KZ (r q : Mm) : CC (KY r q) := by
 refine ap.vc (V := TT 2 (CS ((q.name.toList == r.name.toList) = true) (CS (q.w = r.w) (CS (q.words = r.words) (TT 5 ((True∧(q.name.toList == r.name.toList) = true)∧TT 6 ((True∧(decide (q.w = r.w)) = true)∧TT 6 ((True∧(decide (q.words = r.words)) = true)∧TT 7 ((q.rule.kind == 1) = (dD r q)∧True))))) (TT 5 ((True∧(q.name.toList == r.name.toList) = true)∧TT 6 ((True∧(decide (q.w = r.w)) = true)∧TT 6 ((True∧(decide (q.words = r.words)) = false)∧TT 7 (false = (dD r q)∧True)))))) (TT 5 ((True∧(q.name.toList == r.name.toList) = true)∧TT 6 ((True∧(decide (q.w = r.w)) = false)∧TT 14 (false = (dD r q)∧True))))) (TT 5 ((True∧(q.name.toList == r.name.toList) = false)∧TT 21 (false = (dD r q)∧True))))) (.s 1 ((q.name.toList == r.name.toList) = true) (.s 1 (q.w = r.w) (.s 1 (q.words = r.words) (.w 1 [(5,.val (dB true)),(12,.val (dB true)),(19,.val (dB true))] <| .e) (.w 1 [(5,.val (dB true)),(12,.val (dB true)),(19,.val (dB false))] <| .e)) (.w 1 [(5,.val (dB true)),(12,.val (dB false))] <| .e)) (.w 1 [(5,.val (dB false))] <| .e)) Try.func69 rfl rfl rfl (by kernel_rfl) ?_
 refine tt ⟨fun hs0 => ?_,fun hs0 => ?_⟩
 · refine ⟨fun hs1 => ?_,fun hs1 => ?_⟩
   · refine ⟨fun hs2 => ?_,fun hs2 => ?_⟩
     · refine tt ⟨(bT hs0),tt ⟨(vT hs1),tt ⟨(vT hs2),tt ⟨?_,oK⟩⟩⟩⟩
       unfold dD; simp_all <;> rfl
     · refine tt ⟨(bT hs0),tt ⟨(vT hs1),tt ⟨(vF hs2),tt ⟨?_,oK⟩⟩⟩⟩
       unfold dD; simp_all <;> rfl
   · refine tt ⟨(bT hs0),tt ⟨(vF hs1),tt ⟨?_,oK⟩⟩⟩
     unfold dD; simp_all <;> rfl
 · refine tt ⟨(bF hs0),tt ⟨?_,oK⟩⟩
   unfold dD; simp_all <;> rfl
abbrev K0 (l : List Mm) (r : Mm) : Ct := ⟨86,[(dL 27 bX au l),(.fn (.func 69) [] [(.iptr [(.str r.name),(.int .i64 r.w),(.int .i64 r.words),(.int .i64 r.enable.op),(.str r.enable.name),(.int .i64 r.enable.k.n),(.str r.enable.k.p),(.int .i64 r.enable.w.n),(.str r.enable.w.p),(.sl 7 (eA 2) dE r.enable.args),(.int .i64 r.addr.op),(.str r.addr.name),(.int .i64 r.addr.k.n),(.str r.addr.k.p),(.int .i64 r.addr.w.n),(.str r.addr.w.p),(.sl 7 (eA 2) dE r.addr.args),(.int .i64 r.data.op),(.str r.data.name),(.int .i64 r.data.k.n),(.str r.data.k.p),(.int .i64 r.data.w.n),(.str r.data.w.p),(.sl 7 (eA 2) dE r.data.args),(.int .i64 r.rule.kind),(.str r.rule.src),(.int .i64 r.rule.n)] 0)])],false,(i6 (af (fun i => dD r (l.getD i au)) l.length))⟩
abbrev lQ (l : List Mm) (r : Mm) : Lp (Nat) := fB [0,1,7,8] 0 (fun (i : Nat) => ⟨[(0,(dL 27 bX au l)),(1,(.fn (.func 69) [] [(.iptr [(.str r.name),(.int .i64 r.w),(.int .i64 r.words),(.int .i64 r.enable.op),(.str r.enable.name),(.int .i64 r.enable.k.n),(.str r.enable.k.p),(.int .i64 r.enable.w.n),(.str r.enable.w.p),(.sl 7 (eA 2) dE r.enable.args),(.int .i64 r.addr.op),(.str r.addr.name),(.int .i64 r.addr.k.n),(.str r.addr.k.p),(.int .i64 r.addr.w.n),(.str r.addr.w.p),(.sl 7 (eA 2) dE r.addr.args),(.int .i64 r.data.op),(.str r.data.name),(.int .i64 r.data.k.n),(.str r.data.k.p),(.int .i64 r.data.w.n),(.str r.data.w.p),(.sl 7 (eA 2) dE r.data.args),(.int .i64 r.rule.kind),(.str r.rule.src),(.int .i64 r.rule.n)] 0)])),(7,(i6 (l.length : Int))),(8,(i6 (i : Int)))],[]⟩) (fun (i : Nat) => i ≤ l.length∧∀ z,z < i → dD r (l.getD z au) = false) (fun (i : Nat) => l.length - i)
theorem HR (l : List Mm) (r : Mm) (hl : l.length ≤ 9223372036854775807) : CC (K0 l r) := by
 refine ap.vc (V := TT 4 (GO (lQ l r) 0 (∀ i,(lQ l r).inv i → TT 1 (CD ((i : Int) < (l.length : Int)) (TT 5 (IX (i : Int) l.length∧TT 1 (CC (KY r (l.getD i au))∧CB (dD r (l.getD i au)) (TT 3 ((i : Int) = (af (fun i => dD r (l.getD i au)) l.length)∧True)) (W6 ((i + 1 : Nat) : Int)∧TT 1 (AG (lQ l r) i (i + 1)))))) (TT 2 ((-1) = (af (fun i => dD r (l.getD i au)) l.length)∧True)))))) (.l (lQ l r) 0 (fun i => .b 9 (.w 4 [(5,(KY r (l.getD i au)).O)] <| .b 16 (.e) (.w 6 [(0,.val (i6 ((i + 1 : Nat) : Int)))] <| .e)) (.e))) Try.func86 rfl rfl rfl (by kernel_rfl) ?_
 refine tt ⟨rfl,⟨by omega,fun z hz => by omega⟩,?_⟩
 intro i hinv
 obtain ⟨hi,h3⟩ := hinv
 refine tt (cd (fun hc9 => ?_) (fun hc9 => ?_))
 · refine tt ⟨ix,tt ⟨(KZ r (l.getD i au)),⟨fun hc16 => ?_,fun hc16 => ?_⟩⟩⟩
   · refine tt ⟨?_,oK⟩
     first | exact (bq (f := fun i => dD r (l.getD i au)) hc16 h3 (by omega)).symm | exact (bO (f := fun i => dD r (l.getD i au)) (fun z hz => h3 z (by omega))).symm
   · refine ⟨w6,tt ⟨(i + 1),rfl,?_,(?_ : l.length - (i + 1) < l.length - i)⟩⟩
     · exact ⟨by omega,aR h3 (by simpa using hc16)⟩
     · omega
 · refine tt ⟨?_,oK⟩
   first | exact (bq (f := fun i => dD r (l.getD i au)) hc16 h3 (by omega)).symm | exact (bO (f := fun i => dD r (l.getD i au)) (fun z hz => h3 z (by omega))).symm
abbrev K1 (l : List Mm) (r : Mm) : Ct := ⟨68,[(dL 27 bX au l),(.fn (.func 69) [] [(.iptr [(.str r.name),(.int .i64 r.w),(.int .i64 r.words),(.int .i64 r.enable.op),(.str r.enable.name),(.int .i64 r.enable.k.n),(.str r.enable.k.p),(.int .i64 r.enable.w.n),(.str r.enable.w.p),(.sl 7 (eA 2) dE r.enable.args),(.int .i64 r.addr.op),(.str r.addr.name),(.int .i64 r.addr.k.n),(.str r.addr.k.p),(.int .i64 r.addr.w.n),(.str r.addr.w.p),(.sl 7 (eA 2) dE r.addr.args),(.int .i64 r.data.op),(.str r.data.name),(.int .i64 r.data.k.n),(.str r.data.k.p),(.int .i64 r.data.w.n),(.str r.data.w.p),(.sl 7 (eA 2) dE r.data.args),(.int .i64 r.rule.kind),(.str r.rule.src),(.int .i64 r.rule.n)] 0)])],false,(dB (DR l r))⟩
theorem HS (l : List Mm) (r : Mm) (hl : l.length ≤ 9223372036854775807) : CC (K1 l r) := by
 refine ap.vc (V := TT 3 (CC (K0 l r)∧TT 3 ((decide ((af (fun i => dD r (l.getD i au)) l.length) ≥ 0)) = (DR l r)∧True))) (.w 1 [(2,(K0 l r).O)] <| .e) Try.func68 rfl rfl rfl (by kernel_rfl) ?_
 refine tt ⟨(HR l r om),tt ⟨?_,oK⟩⟩
 exact j7
abbrev K2 (p q : Pr) : Ct := ⟨39,[(.agg [(dS p.name),(dS p.clock),(dL 13 bA aC p.regs),(dL 27 bX au p.mems),(dL 9 cP bB p.takes),(dL 16 cN bK p.puts)]),(.agg [(dS q.name),(dS q.clock),(dL 13 bA aC q.regs),(dL 27 bX au q.mems),(dL 9 cP bB q.takes),(dL 16 cN bK q.puts)])],false,(dB (fG p q))⟩
abbrev lR (p : Pr) (q : Pr) : Lp (Nat) := fB [2,3,10,11,12] 2 (fun (i : Nat) => ⟨[(2,(.ptr 0 0 0 0)),(3,(.ptr 1 0 0 0)),(10,(dL 13 bA aC p.regs)),(11,(i6 (p.regs.length : Int))),(12,(i6 (i : Int)))],[(.var 80 [(dS p.name),(dS p.clock),(dL 13 bA aC p.regs),(dL 27 bX au p.mems),(dL 9 cP bB p.takes),(dL 16 cN bK p.puts)]),(.var 80 [(dS q.name),(dS q.clock),(dL 13 bA aC q.regs),(dL 27 bX au q.mems),(dL 9 cP bB q.takes),(dL 16 cN bK q.puts)])]⟩) (fun (i : Nat) => i ≤ p.regs.length∧∀ z,z < i → DQ q.regs (p.regs.getD z aC) = true) (fun (i : Nat) => p.regs.length - i)
abbrev lS (p : Pr) (q : Pr) : Lp (Nat) := fB [3,23,24,25] 2 (fun (j : Nat) => ⟨[(3,(.ptr 1 0 0 0)),(23,(dL 27 bX au p.mems)),(24,(i6 (p.mems.length : Int))),(25,(i6 (j : Int)))],[(.var 80 [(dS p.name),(dS p.clock),(dL 13 bA aC p.regs),(dL 27 bX au p.mems),(dL 9 cP bB p.takes),(dL 16 cN bK p.puts)]),(.var 80 [(dS q.name),(dS q.clock),(dL 13 bA aC q.regs),(dL 27 bX au q.mems),(dL 9 cP bB q.takes),(dL 16 cN bK q.puts)])]⟩) (fun (j : Nat) => j ≤ p.mems.length∧∀ z,z < j → DR q.mems (p.mems.getD z au) = true) (fun (j : Nat) => p.mems.length - j)
theorem HT (p q : Pr) (h1 : p.regs.length ≤ 1000000) (h2 : p.mems.length ≤ 1000000) (h3 : q.regs.length ≤ 1000000) (h4 : q.mems.length ≤ 1000000) : CC (K2 p q) := by
 refine ap.vc (V := TT 7 (GO (lR p q) 0 (∀ i,(lR p q).inv i → TT 1 (CD ((i : Int) < (p.regs.length : Int)) (IX (i : Int) p.regs.length∧TT 6 (CK (KX q.regs (p.regs.getD i aC))∧TT 1 (CB (!(DQ q.regs (p.regs.getD i aC))) (TT 2 (false = (fG p q)∧True)) (W6 ((i + 1 : Nat) : Int)∧TT 1 (AG (lR p q) i (i + 1)))))) (TT 4 (GO (lS p q) 0 (∀ j,(lS p q).inv j → TT 1 (CD ((j : Int) < (p.mems.length : Int)) (IX (j : Int) p.mems.length∧TT 6 (CK (K1 q.mems (p.mems.getD j au))∧TT 1 (CB (!(DR q.mems (p.mems.getD j au))) (TT 2 (false = (fG p q)∧True)) (W6 ((j + 1 : Nat) : Int)∧TT 1 (AG (lS p q) j (j + 1)))))) (TT 2 (true = (fG p q)∧True)))))))))) (.l (lR p q) 0 (fun i => .b 13 (.w 4 [(3,(KX q.regs (p.regs.getD i aC)).O')] <| .b 20 (.e) (.w 6 [(0,.val (i6 ((i + 1 : Nat) : Int)))] <| .e)) (.l (lS p q) 0 (fun j => .b 26 (.w 10 [(3,(K1 q.mems (p.mems.getD j au)).O')] <| .b 33 (.e) (.w 12 [(0,.val (i6 ((j + 1 : Nat) : Int)))] <| .e)) (.e))))) Try.func39 rfl rfl rfl (by kernel_rfl) ?_
 refine tt ⟨rfl,⟨by omega,fun z hz => by omega⟩,?_⟩
 intro i hinv
 obtain ⟨hi,k1⟩ := hinv
 refine tt (cd (fun hc13 => ?_) (fun hc13 => ?_))
 · refine ⟨ix,tt ⟨⟨kR _ rfl,(HQ q.regs (p.regs.getD i aC) om)⟩,tt ⟨fun hc20 => ?_,fun hc20 => ?_⟩⟩⟩
   · refine tt ⟨?_,oK⟩
     first | exact (pE (i := i) (by omega) (by simpa using hc20)).symm | exact (pF (i := j) (by omega) (by simpa using hc33)).symm | exact (lO (fun z hz => k1 z (by omega)) (fun z hz => k2 z (by omega))).symm
   · refine ⟨w6,tt ⟨(i + 1),rfl,?_,(?_ : p.regs.length - (i + 1) < p.regs.length - i)⟩⟩
     · exact ⟨by omega,aR k1 (by simpa using hc20)⟩
     · omega
 · refine tt ⟨rfl,⟨by omega,fun z hz => by omega⟩,?_⟩
   intro j hinv
   obtain ⟨hj,k2⟩ := hinv
   refine tt (cd (fun hc26 => ?_) (fun hc26 => ?_))
   · refine ⟨ix,tt ⟨⟨kR _ rfl,(HS q.mems (p.mems.getD j au) om)⟩,tt ⟨fun hc33 => ?_,fun hc33 => ?_⟩⟩⟩
     · refine tt ⟨?_,oK⟩
       first | exact (pE (i := i) (by omega) (by simpa using hc20)).symm | exact (pF (i := j) (by omega) (by simpa using hc33)).symm | exact (lO (fun z hz => k1 z (by omega)) (fun z hz => k2 z (by omega))).symm
     · refine ⟨w6,tt ⟨(j + 1),rfl,?_,(?_ : p.mems.length - (j + 1) < p.mems.length - j)⟩⟩
       · exact ⟨by omega,aR k2 (by simpa using hc33)⟩
       · omega
   · refine tt ⟨?_,oK⟩
     first | exact (pE (i := i) (by omega) (by simpa using hc20)).symm | exact (pF (i := j) (by omega) (by simpa using hc33)).symm | exact (lO (fun z hz => k1 z (by omega)) (fun z hz => k2 z (by omega))).symm
end Go.Proofs.Ytnlmlkbaflmgcaa
