/-
  The reference of package migrate.
-/
import Derived.Test.YtnlmlkbaflmgcaaQMiF
namespace Go.Proofs.Ytnlmlkbaflmgcaa
open Go.RowKit
set_option linter.unusedVariables false
set_option linter.unusedSimpArgs false
abbrev Af (c : Ci) : List D := [(dL 6 bm ac c.procs),(dL 5 bH ax c.chans)]
set_option maxRecDepth 100000
abbrev JI (c : Ci) (k : ByteArray) : Ct := ⟨35,[(.agg (Af c)),(dS k)],false,(i6 (af (fun zz => (c.procs.getD zz ac).name.toList == k.toList) c.procs.length))⟩
abbrev kd (c : Ci) (k : ByteArray) : Lp (Nat) := fB [1,2,5] 1 (fun (i : Nat) => ⟨[(1,(dS k)),(2,(.ptr 0 0 0 0)),(5,(i6 (i : Int)))],[(.var 31 (Af c))]⟩) (fun (i : Nat) => i ≤ c.procs.length∧∀ z,z < i → ((c.procs.getD z ac).name.toList == k.toList) = false) (fun (i : Nat) => c.procs.length - i)
theorem Ag (c : Ci) (k : ByteArray) (hl : c.procs.length ≤ 9223372036854775807) : CC (JI c k) := by
 refine ap.vc (V := TT 3 (GO (kd c k) 0 (∀ i,(kd c k).inv i → TT 5 (CD ((i : Int) < (c.procs.length : Int)) (TT 3 (IX (i : Int) c.procs.length∧TT 4 (CB (((c.procs.getD i ac).name).toList == k.toList) (TT 3 ((i : Int) = (af (fun zz => (c.procs.getD zz ac).name.toList == k.toList) c.procs.length)∧True)) (TT 1 (W6 ((i + 1 : Nat) : Int)∧TT 1 (AG (kd c k) i (i + 1))))))) (TT 2 ((-1) = (af (fun zz => (c.procs.getD zz ac).name.toList == k.toList) c.procs.length)∧True)))))) (.l (kd c k) 0 (fun i => .b 10 (.b 20 (.e) (.w 3 [(1,.val (i6 ((i + 1 : Nat) : Int)))] <| .e)) (.e))) Try.func35 rfl rfl rfl (by kernel_rfl) ?_
 refine tt ⟨rfl,⟨by omega,fun z hz => by omega⟩,?_⟩
 intro i hinv
 obtain ⟨hi,h3⟩ := hinv
 refine tt (cd (fun hc10 => ?_) (fun hc10 => ?_))
 · refine tt ⟨ix,tt ⟨fun hc20 => ?_,fun hc20 => ?_⟩⟩
   · refine tt ⟨?_,oK⟩
     first | exact (bq (f := fun zz => (c.procs.getD zz ac).name.toList == k.toList) hc20 h3 (by omega)).symm | exact (bO (f := fun zz => (c.procs.getD zz ac).name.toList == k.toList) (fun z hz => h3 z (by omega))).symm
   · refine tt ⟨w6,tt ⟨(i + 1),rfl,?_,(?_ : c.procs.length - (i + 1) < c.procs.length - i)⟩⟩
     · exact ⟨by omega,aR h3 (by simpa using hc20)⟩
     · omega
 · refine tt ⟨?_,oK⟩
   first | exact (bq (f := fun zz => (c.procs.getD zz ac).name.toList == k.toList) hc20 h3 (by omega)).symm | exact (bO (f := fun zz => (c.procs.getD zz ac).name.toList == k.toList) (fun z hz => h3 z (by omega))).symm
abbrev HU (c : Ci) (k : ByteArray) : Ct := ⟨37,[(.agg (Af c)),(dS k)],false,(i6 (af (fun zz => (c.chans.getD zz ax).name.toList == k.toList) c.chans.length))⟩
abbrev ke (c : Ci) (k : ByteArray) : Lp (Nat) := fB [1,2,5] 1 (fun (i : Nat) => ⟨[(1,(dS k)),(2,(.ptr 0 0 0 0)),(5,(i6 (i : Int)))],[(.var 31 (Af c))]⟩) (fun (i : Nat) => i ≤ c.chans.length∧∀ z,z < i → ((c.chans.getD z ax).name.toList == k.toList) = false) (fun (i : Nat) => c.chans.length - i)
theorem vC (c : Ci) (k : ByteArray) (hl : c.chans.length ≤ 9223372036854775807) : CC (HU c k) := by
 refine ap.vc (V := TT 3 (GO (ke c k) 0 (∀ i,(ke c k).inv i → TT 5 (CD ((i : Int) < (c.chans.length : Int)) (TT 3 (IX (i : Int) c.chans.length∧TT 4 (CB (((c.chans.getD i ax).name).toList == k.toList) (TT 3 ((i : Int) = (af (fun zz => (c.chans.getD zz ax).name.toList == k.toList) c.chans.length)∧True)) (TT 1 (W6 ((i + 1 : Nat) : Int)∧TT 1 (AG (ke c k) i (i + 1))))))) (TT 2 ((-1) = (af (fun zz => (c.chans.getD zz ax).name.toList == k.toList) c.chans.length)∧True)))))) (.l (ke c k) 0 (fun i => .b 10 (.b 20 (.e) (.w 3 [(1,.val (i6 ((i + 1 : Nat) : Int)))] <| .e)) (.e))) Try.func37 rfl rfl rfl (by kernel_rfl) ?_
 refine tt ⟨rfl,⟨by omega,fun z hz => by omega⟩,?_⟩
 intro i hinv
 obtain ⟨hi,h3⟩ := hinv
 refine tt (cd (fun hc10 => ?_) (fun hc10 => ?_))
 · refine tt ⟨ix,tt ⟨fun hc20 => ?_,fun hc20 => ?_⟩⟩
   · refine tt ⟨?_,oK⟩
     first | exact (bq (f := fun zz => (c.chans.getD zz ax).name.toList == k.toList) hc20 h3 (by omega)).symm | exact (bO (f := fun zz => (c.chans.getD zz ax).name.toList == k.toList) (fun z hz => h3 z (by omega))).symm
   · refine tt ⟨w6,tt ⟨(i + 1),rfl,?_,(?_ : c.chans.length - (i + 1) < c.chans.length - i)⟩⟩
     · exact ⟨by omega,aR h3 (by simpa using hc20)⟩
     · omega
 · refine tt ⟨?_,oK⟩
   first | exact (bq (f := fun zz => (c.chans.getD zz ax).name.toList == k.toList) hc20 h3 (by omega)).symm | exact (bO (f := fun zz => (c.chans.getD zz ax).name.toList == k.toList) (fun z hz => h3 z (by omega))).symm
abbrev HV (p : Pr) (k : ByteArray) : Ct := ⟨70,[(.agg [(dS p.name),(dS p.clock),(dL 13 bA aC p.regs),(dL 27 bX au p.mems),(dL 9 cP bB p.takes),(dL 16 cN bK p.puts)]),(dS k)],false,(i6 (af (fun zz => (p.regs.getD zz aC).name.toList == k.toList) p.regs.length))⟩
abbrev lU (p : Pr) (k : ByteArray) : Lp (Nat) := fB [1,2,5] 1 (fun (i : Nat) => ⟨[(1,(dS k)),(2,(.ptr 0 0 0 0)),(5,(i6 (i : Int)))],[(.var 80 [(dS p.name),(dS p.clock),(dL 13 bA aC p.regs),(dL 27 bX au p.mems),(dL 9 cP bB p.takes),(dL 16 cN bK p.puts)])]⟩) (fun (i : Nat) => i ≤ p.regs.length∧∀ z,z < i → ((p.regs.getD z aC).name.toList == k.toList) = false) (fun (i : Nat) => p.regs.length - i)
theorem yH (p : Pr) (k : ByteArray) (hl : p.regs.length ≤ 9223372036854775807) : CC (HV p k) := by
 refine ap.vc (V := TT 3 (GO (lU p k) 0 (∀ i,(lU p k).inv i → TT 5 (CD ((i : Int) < (p.regs.length : Int)) (TT 3 (IX (i : Int) p.regs.length∧TT 4 (CB (((p.regs.getD i aC).name).toList == k.toList) (TT 3 ((i : Int) = (af (fun zz => (p.regs.getD zz aC).name.toList == k.toList) p.regs.length)∧True)) (TT 1 (W6 ((i + 1 : Nat) : Int)∧TT 1 (AG (lU p k) i (i + 1))))))) (TT 2 ((-1) = (af (fun zz => (p.regs.getD zz aC).name.toList == k.toList) p.regs.length)∧True)))))) (.l (lU p k) 0 (fun i => .b 10 (.b 20 (.e) (.w 3 [(1,.val (i6 ((i + 1 : Nat) : Int)))] <| .e)) (.e))) Try.func70 rfl rfl rfl (by kernel_rfl) ?_
 refine tt ⟨rfl,⟨by omega,fun z hz => by omega⟩,?_⟩
 intro i hinv
 obtain ⟨hi,h3⟩ := hinv
 refine tt (cd (fun hc10 => ?_) (fun hc10 => ?_))
 · refine tt ⟨ix,tt ⟨fun hc20 => ?_,fun hc20 => ?_⟩⟩
   · refine tt ⟨?_,oK⟩
     first | exact (bq (f := fun zz => (p.regs.getD zz aC).name.toList == k.toList) hc20 h3 (by omega)).symm | exact (bO (f := fun zz => (p.regs.getD zz aC).name.toList == k.toList) (fun z hz => h3 z (by omega))).symm
   · refine tt ⟨w6,tt ⟨(i + 1),rfl,?_,(?_ : p.regs.length - (i + 1) < p.regs.length - i)⟩⟩
     · exact ⟨by omega,aR h3 (by simpa using hc20)⟩
     · omega
 · refine tt ⟨?_,oK⟩
   first | exact (bq (f := fun zz => (p.regs.getD zz aC).name.toList == k.toList) hc20 h3 (by omega)).symm | exact (bO (f := fun zz => (p.regs.getD zz aC).name.toList == k.toList) (fun z hz => h3 z (by omega))).symm
abbrev HW (p : Pr) (k : ByteArray) : Ct := ⟨71,[(.agg [(dS p.name),(dS p.clock),(dL 13 bA aC p.regs),(dL 27 bX au p.mems),(dL 9 cP bB p.takes),(dL 16 cN bK p.puts)]),(dS k)],false,(i6 (af (fun zz => (p.mems.getD zz au).name.toList == k.toList) p.mems.length))⟩
abbrev lV (p : Pr) (k : ByteArray) : Lp (Nat) := fB [1,2,5] 1 (fun (i : Nat) => ⟨[(1,(dS k)),(2,(.ptr 0 0 0 0)),(5,(i6 (i : Int)))],[(.var 80 [(dS p.name),(dS p.clock),(dL 13 bA aC p.regs),(dL 27 bX au p.mems),(dL 9 cP bB p.takes),(dL 16 cN bK p.puts)])]⟩) (fun (i : Nat) => i ≤ p.mems.length∧∀ z,z < i → ((p.mems.getD z au).name.toList == k.toList) = false) (fun (i : Nat) => p.mems.length - i)
theorem yI (p : Pr) (k : ByteArray) (hl : p.mems.length ≤ 9223372036854775807) : CC (HW p k) := by
 refine ap.vc (V := TT 3 (GO (lV p k) 0 (∀ i,(lV p k).inv i → TT 5 (CD ((i : Int) < (p.mems.length : Int)) (TT 3 (IX (i : Int) p.mems.length∧TT 4 (CB (((p.mems.getD i au).name).toList == k.toList) (TT 3 ((i : Int) = (af (fun zz => (p.mems.getD zz au).name.toList == k.toList) p.mems.length)∧True)) (TT 1 (W6 ((i + 1 : Nat) : Int)∧TT 1 (AG (lV p k) i (i + 1))))))) (TT 2 ((-1) = (af (fun zz => (p.mems.getD zz au).name.toList == k.toList) p.mems.length)∧True)))))) (.l (lV p k) 0 (fun i => .b 10 (.b 20 (.e) (.w 3 [(1,.val (i6 ((i + 1 : Nat) : Int)))] <| .e)) (.e))) Try.func71 rfl rfl rfl (by kernel_rfl) ?_
 refine tt ⟨rfl,⟨by omega,fun z hz => by omega⟩,?_⟩
 intro i hinv
 obtain ⟨hi,h3⟩ := hinv
 refine tt (cd (fun hc10 => ?_) (fun hc10 => ?_))
 · refine tt ⟨ix,tt ⟨fun hc20 => ?_,fun hc20 => ?_⟩⟩
   · refine tt ⟨?_,oK⟩
     first | exact (bq (f := fun zz => (p.mems.getD zz au).name.toList == k.toList) hc20 h3 (by omega)).symm | exact (bO (f := fun zz => (p.mems.getD zz au).name.toList == k.toList) (fun z hz => h3 z (by omega))).symm
   · refine tt ⟨w6,tt ⟨(i + 1),rfl,?_,(?_ : p.mems.length - (i + 1) < p.mems.length - i)⟩⟩
     · exact ⟨by omega,aR h3 (by simpa using hc20)⟩
     · omega
 · refine tt ⟨?_,oK⟩
   first | exact (bq (f := fun zz => (p.mems.getD zz au).name.toList == k.toList) hc20 h3 (by omega)).symm | exact (bO (f := fun zz => (p.mems.getD zz au).name.toList == k.toList) (fun z hz => h3 z (by omega))).symm
abbrev HX (l : List ByteArray) (k : ByteArray) : Ct := ⟨34,[(dL 1 bu .empty l),(dS k)],false,(dB (p7 l k))⟩
abbrev oC (l : List ByteArray) (k : ByteArray) : Lp (Nat) := fB [0,1,5] 0 (fun (i : Nat) => ⟨[(0,(dL 1 bu .empty l)),(1,(dS k)),(5,(i6 (i : Int)))],[]⟩) (fun (i : Nat) => i ≤ l.length∧∀ z,z < i → ((l.getD z .empty).toList == k.toList) = false) (fun (i : Nat) => l.length - i)
theorem DT (l : List ByteArray) (k : ByteArray) (hl : l.length ≤ 9223372036854775807) : CC (HX l k) := by
 refine ap.vc (V := TT 2 (GO (oC l k) 0 (∀ i,(oC l k).inv i → TT 4 (CD ((i : Int) < (l.length : Int)) (TT 2 (IX (i : Int) l.length∧TT 3 (CB ((l.getD i .empty).toList == k.toList) (TT 2 (true = (p7 l k)∧True)) (TT 1 (W6 ((i + 1 : Nat) : Int)∧TT 1 (AG (oC l k) i (i + 1))))))) (TT 2 (false = (p7 l k)∧True)))))) (.l (oC l k) 0 (fun i => .b 9 (.b 17 (.e) (.w 3 [(1,.val (i6 ((i + 1 : Nat) : Int)))] <| .e)) (.e))) Try.func34 rfl rfl rfl (by kernel_rfl) ?_
 refine tt ⟨rfl,⟨by omega,fun z hz => by omega⟩,?_⟩
 intro i hinv
 obtain ⟨hi,h3⟩ := hinv
 refine tt (cd (fun hc9 => ?_) (fun hc9 => ?_))
 · refine tt ⟨ix,tt ⟨fun hc17 => ?_,fun hc17 => ?_⟩⟩
   · refine tt ⟨?_,oK⟩
     first | exact (Ae (i := i) (by omega) hc17).symm | exact (DS (fun z hz => h3 z (by omega))).symm
   · refine tt ⟨w6,tt ⟨(i + 1),rfl,?_,(?_ : l.length - (i + 1) < l.length - i)⟩⟩
     · exact ⟨by omega,aR h3 (by simpa using hc17)⟩
     · omega
 · refine tt ⟨?_,oK⟩
   first | exact (Ae (i := i) (by omega) hc17).symm | exact (DS (fun z hz => h3 z (by omega))).symm
abbrev pG (v w : Int) : Ct := ⟨58,[(i6 v),(i6 w)],false,(i6 (dH v w))⟩
theorem fS (v w : Int) (h1 : 0 ≤ w) (h2 : w ≤ 62) : CC (pG v w) := by
 refine ap.vc (V := TT 3 ((True∧IntKind.u64.wrap w = w)∧SH w∧W6 ((2 ^ w.toNat) - 1)∧(True∧(IntKind.wrap .i64 (BitVec.ofInt (IntKind.i64).bits v &&& BitVec.ofInt (IntKind.i64).bits ((2 ^ w.toNat) - 1)).toNat) = (dH v w))∧TT 2 ((dH v w) = (dH v w)∧True))) (.w 1 [(2,.val (dI .u64 w)),(3,.val (i6 (2 ^ w.toNat))),(4,.val (i6 ((2 ^ w.toNat) - 1))),(5,.val (i6 (dH v w)))] <| .e) Try.func58 rfl rfl rfl (by kernel_rfl) ?_
 exact tt ⟨⟨oK,CP rfl om om⟩,⟨sh,⟨(w6 (by have := mM (n := w.toNat) (by omega); omega) (by have := mM (n := w.toNat) (by omega); omega)),⟨⟨oK,(by unfold dH; rw [if_pos ⟨h1,h2⟩]; exact kS (by omega))⟩,tt ⟨rfl,oK⟩⟩⟩⟩⟩
end Go.Proofs.Ytnlmlkbaflmgcaa
