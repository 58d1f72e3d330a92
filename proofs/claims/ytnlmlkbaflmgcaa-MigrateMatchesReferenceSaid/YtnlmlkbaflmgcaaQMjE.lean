/-
  The reference of package migrate: carried values and states.
-/
import Derived.Test.YtnlmlkbaflmgcaaQMjB
import Derived.Test.YtnlmlkbaflmgcaaQMjC
namespace Go.Proofs.Ytnlmlkbaflmgcaa
open Go.RowKit
set_option linter.unusedVariables false
set_option linter.unusedSimpArgs false
abbrev sa (f : Sr) : List D := [(dB f.is),(dS f.p.name),(dS f.p.clock),(dL 13 bA aC f.p.regs),(dL 27 bX au f.p.mems),(dL 9 cP bB f.p.takes),(dL 16 cN bK f.p.puts),(LI f.s.regs),(dL 1 ab [] f.s.mems)]
abbrev Ea (m : Mm) : aE := (.var 70 [(dS m.name),(i6 m.w),(i6 m.words),(i6 m.enable.op),(dS m.enable.name),(i6 m.enable.k.n),(dS m.enable.k.p),(i6 m.enable.w.n),(dS m.enable.w.p),(dL 7 (eA 2) dE m.enable.args),(i6 m.addr.op),(dS m.addr.name),(i6 m.addr.k.n),(dS m.addr.k.p),(i6 m.addr.w.n),(dS m.addr.w.p),(dL 7 (eA 2) dE m.addr.args),(i6 m.data.op),(dS m.data.name),(i6 m.data.k.n),(dS m.data.k.p),(i6 m.data.w.n),(dS m.data.w.p),(dL 7 (eA 2) dE m.data.args),(i6 m.rule.kind),(dS m.rule.src),(i6 m.rule.n)])
set_option maxRecDepth 100000
abbrev K4 (r : Rg) (f : Sr) : Ct := ⟨64,[(.agg [(dS r.name),(i6 r.w),(i6 r.init),(i6 r.next.op),(dS r.next.name),(i6 r.next.k.n),(dS r.next.k.p),(i6 r.next.w.n),(dS r.next.w.p),(dL 7 (eA 2) dE r.next.args),(i6 r.rule.kind),(dS r.rule.src),(i6 r.rule.n)]),(.agg (sa f))],false,(i6 (fU r f))⟩
abbrev ck (r : Rg) (f : Sr) : Lp (Int) := fB [2,3,5,6] 2 (fun (ixu : Int) => ⟨[(2,(.ptr 0 0 0 0)),(3,(.ptr 1 0 0 0)),(5,(i6 r.init)),(6,(i6 ixu))],[(.var 66 [(dS r.name),(i6 r.w),(i6 r.init),(i6 r.next.op),(dS r.next.name),(i6 r.next.k.n),(dS r.next.k.p),(i6 r.next.w.n),(dS r.next.w.p),(dL 7 (eA 2) dE r.next.args),(i6 r.rule.kind),(dS r.rule.src),(i6 r.rule.n)]),(.var 89 (sa f))]⟩) (fun (ixu : Int) => ixu = Cb r f) (fun (ixu : Int) => 0)
abbrev dU (r : Rg) (f : Sr) : Lp (Int) := fB [2,3,5,6] 2 (fun (ixv : Int) => ⟨[(2,(.ptr 0 0 0 0)),(3,(.ptr 1 0 0 0)),(5,(i6 r.init)),(6,(i6 ixv))],[(.var 66 [(dS r.name),(i6 r.w),(i6 r.init),(i6 r.next.op),(dS r.next.name),(i6 r.next.k.n),(dS r.next.k.p),(i6 r.next.w.n),(dS r.next.w.p),(dL 7 (eA 2) dE r.next.args),(i6 r.rule.kind),(dS r.rule.src),(i6 r.rule.n)]),(.var 89 (sa f))]⟩) (fun (ixv : Int) => ixv = yK r f) (fun (ixv : Int) => 0)
set_option maxHeartbeats 4000000 in
theorem xc (r : Rg) (f : Sr) (h1 : 0 ≤ r.w) (h2 : r.w ≤ 62) (hl : f.p.regs.length ≤ 1000000) (hsl : f.s.regs.length = f.p.regs.length) : CC (K4 r f) := by
 have hx1 : af (fun zz => (f.p.regs.getD zz aC).name.toList == (r.name).toList) f.p.regs.length < (f.p.regs.length : Int) := bz
 have hx2 : af (fun zz => (f.p.regs.getD zz aC).name.toList == (r.rule.src).toList) f.p.regs.length < (f.p.regs.length : Int) := bz
 have hr1 : iB f.p r.name = af (fun zz => (f.p.regs.getD zz aC).name.toList == (r.name).toList) f.p.regs.length := rfl
 have hr2 : iB f.p r.rule.src = af (fun zz => (f.p.regs.getD zz aC).name.toList == (r.rule.src).toList) f.p.regs.length := rfl
 have hy1 := hx1
 have hy2 := hx2
 simp only [List.getD_eq_getElem?_getD] at hy1 hy2
 refine ap.vc (V := TT 7 (CS (f.is = true) (TT 2 ((True∧f.is = true)∧TT 5 (CD (r.rule.kind = 1) (TT 4 (CC (HV f.p r.name)∧TT 1 (CS ((af (fun zz => (f.p.regs.getD zz aC).name.toList == r.name.toList) f.p.regs.length) ≥ 0) (TT 2 ((True∧(decide ((af (fun zz => (f.p.regs.getD zz aC).name.toList == r.name.toList) f.p.regs.length) ≥ 0)) = true)∧TT 4 (IX (af (fun zz => (f.p.regs.getD zz aC).name.toList == r.name.toList) f.p.regs.length) f.p.regs.length∧TT 6 (CN (((f.p.regs.getD ((af (fun zz => (f.p.regs.getD zz aC).name.toList == r.name.toList) f.p.regs.length).toNat) aC).w) = r.w) (TT 1 (AT (ck r f) (-1))) (AT (ck r f) (af (fun zz => (f.p.regs.getD zz aC).name.toList == r.name.toList) f.p.regs.length)))))) (TT 2 ((True∧(decide ((af (fun zz => (f.p.regs.getD zz aC).name.toList == r.name.toList) f.p.regs.length) ≥ 0)) = false)∧TT 1 (AT (ck r f) (af (fun zz => (f.p.regs.getD zz aC).name.toList == r.name.toList) f.p.regs.length))))))) (AT (ck r f) (-1))))) (TT 2 ((True∧f.is = false)∧TT 5 (AT (ck r f) (-1))))∧∀ ixu,(ck r f).inv ixu → (CS (f.is = true) (TT 2 ((True∧f.is = true)∧TT 5 (CD (r.rule.kind ≥ 2) (TT 5 (CC (HV f.p r.rule.src)∧TT 1 (AT (dU r f) (af (fun zz => (f.p.regs.getD zz aC).name.toList == r.rule.src.toList) f.p.regs.length)))) (AT (dU r f) ixu)))) (TT 2 ((True∧f.is = false)∧TT 5 (AT (dU r f) ixu)))∧∀ ixv,(dU r f).inv ixv → TT 2 (CD (ixv ≥ 0) (TT 4 (IX ixv f.s.regs.length∧TT 3 (CC (pG (f.s.regs.getD ixv.toNat 0) r.w)∧TT 5 (CD (r.rule.kind = 3) (TT 6 (CC (pG r.rule.n r.w)∧TT 3 (CC (pG (IntKind.wrap .i64 ((dH (f.s.regs.getD ixv.toNat 0) r.w) + (dH r.rule.n r.w))) r.w)∧TT 4 ((dH (IntKind.wrap .i64 ((dH (f.s.regs.getD ixv.toNat 0) r.w) + (dH r.rule.n r.w))) r.w) = (fU r f)∧True)))) (TT 3 ((dH (f.s.regs.getD ixv.toNat 0) r.w) = (fU r f)∧True)))))) (TT 4 (CD (r.rule.kind = 3) (TT 6 (CC (pG r.rule.n r.w)∧TT 3 (CC (pG (IntKind.wrap .i64 (r.init + (dH r.rule.n r.w))) r.w)∧TT 4 ((dH (IntKind.wrap .i64 (r.init + (dH r.rule.n r.w))) r.w) = (fU r f)∧True)))) (TT 3 (r.init = (fU r f)∧True)))))))) (.k 3 (ck r f) (.s 3 (f.is = true) (.w 3 [(2,.val (dB true))] <| .b 16 (.w 4 [(4,(HV f.p r.name).O)] <| .s 5 ((af (fun zz => (f.p.regs.getD zz aC).name.toList == r.name.toList) f.p.regs.length) ≥ 0) (.w 5 [(2,.val (dB true))] <| .b 35 (.e) (.e)) (.w 5 [(2,.val (dB false))] <| .e)) (.e)) (.w 3 [(2,.val (dB false))] <| .e)) (fun ixu => .k 7 (dU r f) (.s 7 (f.is = true) (.w 7 [(2,.val (dB true))] <| .b 43 (.w 8 [(5,(HV f.p r.rule.src).O)] <| .e) (.e)) (.w 7 [(2,.val (dB false))] <| .e)) (fun ixv => .b 51 (.w 10 [(8,(pG (f.s.regs.getD ixv.toNat 0) r.w).O)] <| .b 64 (.w 12 [(6,(pG r.rule.n r.w).O),(10,(pG (IntKind.wrap .i64 ((dH (f.s.regs.getD ixv.toNat 0) r.w) + (dH r.rule.n r.w))) r.w).O)] <| .e) (.e)) (.b 64 (.w 12 [(6,(pG r.rule.n r.w).O),(10,(pG (IntKind.wrap .i64 (r.init + (dH r.rule.n r.w))) r.w).O)] <| .e) (.e))))) Try.func64 rfl rfl rfl (by kernel_rfl) ?_
 refine tt ⟨?_,?_⟩
 · refine ⟨fun hs0 => ?_,fun hs0 => ?_⟩
   · refine tt ⟨(bT hs0),tt (cd (fun hc16 => ?_) (fun hc16 => ?_))⟩
     · refine tt ⟨(yH f.p r.name (by omega)),tt ⟨fun hs1 => ?_,fun hs1 => ?_⟩⟩
       · refine tt ⟨(vT hs1),tt ⟨ix,tt (cn (fun hc35 => ?_) (fun hc35 => ?_))⟩⟩
         · refine tt ⟨(-1),rfl,(?_ : (-1) = Cb r f)⟩
           · exact (by unfold Cb; rw [hr1]; (repeat' split) <;> first | rfl | omega | (simp_all; done) | (simp_all; omega))
         · refine ⟨(af (fun zz => (f.p.regs.getD zz aC).name.toList == r.name.toList) f.p.regs.length),rfl,(?_ : (af (fun zz => (f.p.regs.getD zz aC).name.toList == r.name.toList) f.p.regs.length) = Cb r f)⟩
           · exact (by unfold Cb; rw [hr1]; (repeat' split) <;> first | rfl | omega | (simp_all; done) | (simp_all; omega))
       · refine tt ⟨(vF hs1),tt ⟨(af (fun zz => (f.p.regs.getD zz aC).name.toList == r.name.toList) f.p.regs.length),rfl,(?_ : (af (fun zz => (f.p.regs.getD zz aC).name.toList == r.name.toList) f.p.regs.length) = Cb r f)⟩⟩
         · exact (by unfold Cb; rw [hr1]; (repeat' split) <;> first | rfl | omega | (simp_all; done) | (simp_all; omega))
     · refine ⟨(-1),rfl,(?_ : (-1) = Cb r f)⟩
       · exact (by unfold Cb; rw [hr1]; (repeat' split) <;> first | rfl | omega | (simp_all; done) | (simp_all; omega))
   · refine tt ⟨(bF hs0),tt ⟨(-1),rfl,(?_ : (-1) = Cb r f)⟩⟩
     · exact (by unfold Cb; rw [hr1]; (repeat' split) <;> first | rfl | omega | (simp_all; done) | (simp_all; omega))
 · intro ixu hinv
   have hiu := hinv
   refine ⟨?_,?_⟩
   · refine ⟨fun hs2 => ?_,fun hs2 => ?_⟩
     · refine tt ⟨(bT hs2),tt (cd (fun hc43 => ?_) (fun hc43 => ?_))⟩
       · refine tt ⟨(yH f.p r.rule.src (by omega)),tt ⟨(af (fun zz => (f.p.regs.getD zz aC).name.toList == r.rule.src.toList) f.p.regs.length),rfl,(?_ : (af (fun zz => (f.p.regs.getD zz aC).name.toList == r.rule.src.toList) f.p.regs.length) = yK r f)⟩⟩
         · exact (by first | exact DY (by assumption) (by omega) | exact DZ (fun hh => by have hh1 := hh.1; have hh2 := hh.2; first | omega | simp_all) hiu)
       · refine ⟨ixu,rfl,(?_ : ixu = yK r f)⟩
         · exact (by first | exact DY (by assumption) (by omega) | exact DZ (fun hh => by have hh1 := hh.1; have hh2 := hh.2; first | omega | simp_all) hiu)
     · refine tt ⟨(bF hs2),tt ⟨ixu,rfl,(?_ : ixu = yK r f)⟩⟩
       · exact (by first | exact DY (by assumption) (by omega) | exact DZ (fun hh => by have hh1 := hh.1; have hh2 := hh.2; first | omega | simp_all) hiu)
   · intro ixv hinv
     have hix := hinv
     have hxl : ixv < f.p.regs.length := by rw [hix]; exact H6 r f
     refine tt (cd (fun hc51 => ?_) (fun hc51 => ?_))
     · refine tt ⟨ix,tt ⟨(fS (f.s.regs.getD ixv.toNat 0) r.w h1 h2),tt (cd (fun hc64 => ?_) (fun hc64 => ?_))⟩⟩
       · refine tt ⟨(fS r.rule.n r.w h1 h2),tt ⟨(fS (IntKind.wrap .i64 ((dH (f.s.regs.getD ixv.toNat 0) r.w) + (dH r.rule.n r.w))) r.w h1 h2),tt ⟨?_,oK⟩⟩⟩
         subst hix
         unfold fU xb
         try rw [jw]
         repeat' split
         all_goals first | rfl | omega | (simp_all; done) | (simp_all; omega)
       · refine tt ⟨?_,oK⟩
         subst hix
         unfold fU xb
         try rw [jw]
         repeat' split
         all_goals first | rfl | omega | (simp_all; done) | (simp_all; omega)
     · refine tt (cd (fun hc64 => ?_) (fun hc64 => ?_))
       · refine tt ⟨(fS r.rule.n r.w h1 h2),tt ⟨(fS (IntKind.wrap .i64 (r.init + (dH r.rule.n r.w))) r.w h1 h2),tt ⟨?_,oK⟩⟩⟩
         subst hix
         unfold fU xb
         try rw [jw]
         repeat' split
         all_goals first | rfl | omega | (simp_all; done) | (simp_all; omega)
       · refine tt ⟨?_,oK⟩
         subst hix
         unfold fU xb
         try rw [jw]
         repeat' split
         all_goals first | rfl | omega | (simp_all; done) | (simp_all; omega)
abbrev K5 (m : Mm) (f : Sr) : Ct := ⟨65,[(.agg [(dS m.name),(i6 m.w),(i6 m.words),(i6 m.enable.op),(dS m.enable.name),(i6 m.enable.k.n),(dS m.enable.k.p),(i6 m.enable.w.n),(dS m.enable.w.p),(dL 7 (eA 2) dE m.enable.args),(i6 m.addr.op),(dS m.addr.name),(i6 m.addr.k.n),(dS m.addr.k.p),(i6 m.addr.w.n),(dS m.addr.w.p),(dL 7 (eA 2) dE m.addr.args),(i6 m.data.op),(dS m.data.name),(i6 m.data.k.n),(dS m.data.k.p),(i6 m.data.w.n),(dS m.data.w.p),(dL 7 (eA 2) dE m.data.args),(i6 m.rule.kind),(dS m.rule.src),(i6 m.rule.n)]),(.agg (sa f))],true,(LI (tab (cL m f) m.words.toNat))⟩
abbrev cD (m : Mm) (f : Sr) : Lp (Int) := fB [2,3,5,6] 3 (fun (ixu : Int) => ⟨[(2,(.ptr 0 0 0 0)),(3,(.ptr 1 0 0 0)),(5,(.own 2)),(6,(i6 ixu))],[(Ea m),(.var 89 (sa f)),(.arr 3 1 (aa .i64) 0 (List.replicate m.words.toNat (0 : Int)))]⟩) (fun (ixu : Int) => ixu = Aq m f) (fun (ixu : Int) => 0)
abbrev fx (m : Mm) (f : Sr) : Lp (Int) := fB [2,3,5,6] 3 (fun (ixv : Int) => ⟨[(2,(.ptr 0 0 0 0)),(3,(.ptr 1 0 0 0)),(5,(.own 2)),(6,(i6 ixv))],[(Ea m),(.var 89 (sa f)),(.arr 3 1 (aa .i64) 0 (List.replicate m.words.toNat (0 : Int)))]⟩) (fun (ixv : Int) => ixv = uj m f) (fun (ixv : Int) => 0)
abbrev b9 (m : Mm) (f : Sr) : Lp (Nat × Int × List Int) := Jl [2,3,5,6,7] 3 (fun (k : Nat) (ixv : Int) (wd : List Int) => ⟨[(2,(.ptr 0 0 0 0)),(3,(.ptr 1 0 0 0)),(5,(.own 2)),(6,(i6 ixv)),(7,(i6 (k : Int)))],[(Ea m),(.var 89 (sa f)),(.arr 3 1 (aa .i64) 0 wd)]⟩) (fun (k : Nat) (ixv : Int) (wd : List Int) => k ≤ m.words.toNat∧ixv = uj m f∧wd = jj (cL m f) (List.replicate m.words.toNat (0 : Int)) k) (fun (k : Nat) (ixv : Int) (wd : List Int) => m.words.toNat - k)
set_option maxHeartbeats 8000000 in
theorem BN (m : Mm) (f : Sr) (h1 : 0 ≤ m.w) (h2 : m.w ≤ 62) (hw : 0 ≤ m.words) (hw2 : m.words ≤ 1000000) (hl : f.p.mems.length ≤ 1000000) (hsl : f.s.mems.length = f.p.mems.length) (hsw : ∀ i,(f.s.mems.getD i []).length ≤ 1000000) : CC (K5 m f) := by
 have hx1 : af (fun zz => (f.p.mems.getD zz au).name.toList == (m.name).toList) f.p.mems.length < (f.p.mems.length : Int) := bz
 have hx2 : af (fun zz => (f.p.mems.getD zz au).name.toList == (m.rule.src).toList) f.p.mems.length < (f.p.mems.length : Int) := bz
 have hr1 : fE f.p m.name = af (fun zz => (f.p.mems.getD zz au).name.toList == (m.name).toList) f.p.mems.length := rfl
 have hr2 : fE f.p m.rule.src = af (fun zz => (f.p.mems.getD zz au).name.toList == (m.rule.src).toList) f.p.mems.length := rfl
 have hy1 := hx1
 have hy2 := hx2
 simp only [List.getD_eq_getElem?_getD] at hy1 hy2
 refine ap.vc (V := TT 5 ((((0 : Int) ≤ m.words∧m.words ≤ m.words∧m.words ≤ 137438953472)∧(List.replicate m.words.toNat (0 : Int)).length = m.words.toNat∧∀ x ∈ (List.replicate m.words.toNat (0 : Int)),dy [(i6 0)] ((aa .i64) x))∧TT 2 (CS (f.is = true) (TT 2 ((True∧f.is = true)∧TT 5 (CD (m.rule.kind = 1) (TT 4 (CC (HW f.p m.name)∧TT 1 (CS ((af (fun zz => (f.p.mems.getD zz au).name.toList == m.name.toList) f.p.mems.length) ≥ 0) (CS (((f.p.mems.getD ((af (fun zz => (f.p.mems.getD zz au).name.toList == m.name.toList) f.p.mems.length).toNat) au).w) = m.w) (TT 2 ((True∧(decide ((af (fun zz => (f.p.mems.getD zz au).name.toList == m.name.toList) f.p.mems.length) ≥ 0)) = true)∧TT 4 (IX (af (fun zz => (f.p.mems.getD zz au).name.toList == m.name.toList) f.p.mems.length) f.p.mems.length∧TT 5 ((True∧(!decide (((f.p.mems.getD ((af (fun zz => (f.p.mems.getD zz au).name.toList == m.name.toList) f.p.mems.length).toNat) au).w) = m.w)) = false)∧TT 4 (IX (af (fun zz => (f.p.mems.getD zz au).name.toList == m.name.toList) f.p.mems.length) f.p.mems.length∧TT 7 (CN (((f.p.mems.getD ((af (fun zz => (f.p.mems.getD zz au).name.toList == m.name.toList) f.p.mems.length).toNat) au).words) = m.words) (TT 1 (AT (cD m f) (-1))) (AT (cD m f) (af (fun zz => (f.p.mems.getD zz au).name.toList == m.name.toList) f.p.mems.length)))))))) (TT 2 ((True∧(decide ((af (fun zz => (f.p.mems.getD zz au).name.toList == m.name.toList) f.p.mems.length) ≥ 0)) = true)∧TT 4 (IX (af (fun zz => (f.p.mems.getD zz au).name.toList == m.name.toList) f.p.mems.length) f.p.mems.length∧TT 5 ((True∧(!decide (((f.p.mems.getD ((af (fun zz => (f.p.mems.getD zz au).name.toList == m.name.toList) f.p.mems.length).toNat) au).w) = m.w)) = true)∧TT 3 (AT (cD m f) (-1))))))) (TT 2 ((True∧(decide ((af (fun zz => (f.p.mems.getD zz au).name.toList == m.name.toList) f.p.mems.length) ≥ 0)) = false)∧TT 1 (AT (cD m f) (af (fun zz => (f.p.mems.getD zz au).name.toList == m.name.toList) f.p.mems.length))))))) (AT (cD m f) (-1))))) (TT 2 ((True∧f.is = false)∧TT 5 (AT (cD m f) (-1))))∧∀ ixu,(cD m f).inv ixu → (CS (f.is = true) (TT 2 ((True∧f.is = true)∧TT 5 (CD (m.rule.kind ≥ 2) (TT 5 (CC (HW f.p m.rule.src)∧TT 1 (AT (fx m f) (af (fun zz => (f.p.mems.getD zz au).name.toList == m.rule.src.toList) f.p.mems.length)))) (AT (fx m f) ixu)))) (TT 2 ((True∧f.is = false)∧TT 5 (AT (fx m f) ixu)))∧∀ ixv,(fx m f).inv ixv → TT 1 (GO (b9 m f) (0,ixv,List.replicate m.words.toNat (0 : Int)) (∀ k ixv wd,(b9 m f).inv (k,ixv,wd) → TT 4 (CD ((k : Int) < m.words) (CS (ixv ≥ 0) (TT 2 ((True∧(decide (ixv ≥ 0)) = true)∧TT 5 (IX ixv f.s.mems.length∧TT 4 (CD ((k : Int) < (((f.s.mems.getD ixv.toNat []).length : Nat) : Int)) (TT 6 (IX ixv f.s.mems.length∧TT 2 (IX (k : Int) ((f.s.mems.getD ixv.toNat []).length)∧TT 3 (CC (pG ((f.s.mems.getD ixv.toNat []).getD k 0) m.w)∧IX (k : Int) wd.length∧(k < wd.length∧(wd.map (aa .i64)).set k (((aa .i64) (wd.getD k 0)).take 0 ++ [(.int .i64 (dH ((f.s.mems.getD ixv.toNat []).getD k 0) m.w))] ++ ((aa .i64) (wd.getD k 0)).drop (0 + 1)) = (wd.set k (dT m f k)).map (aa .i64))∧TT 4 (CD (m.rule.kind = 3) (TT 4 (IX (k : Int) ((wd.set k (dT m f k)).length)∧(k < (wd.set k (dT m f k)).length∧True)∧TT 5 (CC (pG m.rule.n m.w)∧TT 3 (CC (pG (IntKind.wrap .i64 (((wd.set k (dT m f k)).getD k 0) + (dH m.rule.n m.w))) m.w)∧IX (k : Int) ((wd.set k (dT m f k)).length)∧(k < (wd.set k (dT m f k)).length∧((wd.set k (dT m f k)).map (aa .i64)).set k (((aa .i64) ((wd.set k (dT m f k)).getD k 0)).take 0 ++ [(.int .i64 (dH (IntKind.wrap .i64 (((wd.set k (dT m f k)).getD k 0) + (dH m.rule.n m.w))) m.w))] ++ ((aa .i64) ((wd.set k (dT m f k)).getD k 0)).drop (0 + 1)) = ((wd.set k (dT m f k)).set k (cL m f k)).map (aa .i64))∧TT 1 (W6 ((k + 1 : Nat) : Int)∧TT 1 (AG (b9 m f) (k,ixv,wd) (k + 1,ixv,(wd.set k (dT m f k)).set k (cL m f k)))))))) (TT 1 (W6 ((k + 1 : Nat) : Int)∧TT 1 (AG (b9 m f) (k,ixv,wd) (k + 1,ixv,wd.set k (dT m f k)))))))))) (TT 4 (CD (m.rule.kind = 3) (TT 4 (IX (k : Int) wd.length∧(k < wd.length∧True)∧TT 5 (CC (pG m.rule.n m.w)∧TT 3 (CC (pG (IntKind.wrap .i64 ((wd.getD k 0) + (dH m.rule.n m.w))) m.w)∧IX (k : Int) wd.length∧(k < wd.length∧(wd.map (aa .i64)).set k (((aa .i64) (wd.getD k 0)).take 0 ++ [(.int .i64 (dH (IntKind.wrap .i64 ((wd.getD k 0) + (dH m.rule.n m.w))) m.w))] ++ ((aa .i64) (wd.getD k 0)).drop (0 + 1)) = (wd.set k (cL m f k)).map (aa .i64))∧TT 1 (W6 ((k + 1 : Nat) : Int)∧TT 1 (AG (b9 m f) (k,ixv,wd) (k + 1,ixv,wd.set k (cL m f k)))))))) (TT 1 (W6 ((k + 1 : Nat) : Int)∧TT 1 (AG (b9 m f) (k,ixv,wd) (k + 1,ixv,wd)))))))))) (TT 2 ((True∧(decide (ixv ≥ 0)) = false)∧TT 14 (CD (m.rule.kind = 3) (TT 4 (IX (k : Int) wd.length∧(k < wd.length∧True)∧TT 5 (CC (pG m.rule.n m.w)∧TT 3 (CC (pG (IntKind.wrap .i64 ((wd.getD k 0) + (dH m.rule.n m.w))) m.w)∧IX (k : Int) wd.length∧(k < wd.length∧(wd.map (aa .i64)).set k (((aa .i64) (wd.getD k 0)).take 0 ++ [(.int .i64 (dH (IntKind.wrap .i64 ((wd.getD k 0) + (dH m.rule.n m.w))) m.w))] ++ ((aa .i64) (wd.getD k 0)).drop (0 + 1)) = (wd.set k (cL m f k)).map (aa .i64))∧TT 1 (W6 ((k + 1 : Nat) : Int)∧TT 1 (AG (b9 m f) (k,ixv,wd) (k + 1,ixv,wd.set k (cL m f k)))))))) (TT 1 (W6 ((k + 1 : Nat) : Int)∧TT 1 (AG (b9 m f) (k,ixv,wd) (k + 1,ixv,wd)))))))) (TT 3 (wd.map (aa .i64) = (tab (cL m f) m.words.toNat).map (aa .i64)))))))))) (.w 1 [(2,.box 3 1 (aa .i64) 0 (List.replicate m.words.toNat (0 : Int)))] <| .k 3 (cD m f) (.s 3 (f.is = true) (.w 3 [(2,.val (dB true))] <| .b 18 (.w 4 [(4,(HW f.p m.name).O)] <| .s 5 ((af (fun zz => (f.p.mems.getD zz au).name.toList == m.name.toList) f.p.mems.length) ≥ 0) (.s 5 (((f.p.mems.getD ((af (fun zz => (f.p.mems.getD zz au).name.toList == m.name.toList) f.p.mems.length).toNat) au).w) = m.w) (.w 5 [(2,.val (dB true)),(13,.val (dB false))] <| .b 49 (.e) (.e)) (.w 5 [(2,.val (dB true)),(13,.val (dB true))] <| .e)) (.w 5 [(2,.val (dB false))] <| .e)) (.e)) (.w 3 [(2,.val (dB false))] <| .e)) (fun ixu => .k 7 (fx m f) (.s 7 (f.is = true) (.w 7 [(2,.val (dB true))] <| .b 57 (.w 8 [(5,(HW f.p m.rule.src).O)] <| .e) (.e)) (.w 7 [(2,.val (dB false))] <| .e)) (fun ixv => .l (b9 m f) (0,ixv,List.replicate m.words.toNat (0 : Int)) (fun ⟨k,ixv,wd⟩ => .b 67 (.s 12 (ixv ≥ 0) (.w 12 [(2,.val (dB true))] <| .b 82 (.w 13 [(13,(pG ((f.s.mems.getD ixv.toNat []).getD k 0) m.w).O),(15,.box 3 1 (aa .i64) 0 (wd.set k (dT m f k)))] <| .b 101 (.w 15 [(11,(pG m.rule.n m.w).O),(15,(pG (IntKind.wrap .i64 (((wd.set k (dT m f k)).getD k 0) + (dH m.rule.n m.w))) m.w).O),(17,.box 3 1 (aa .i64) 0 ((wd.set k (dT m f k)).set k (cL m f k)))] <| .w 11 [(1,.val (i6 ((k + 1 : Nat) : Int)))] <| .e) (.w 11 [(1,.val (i6 ((k + 1 : Nat) : Int)))] <| .e)) (.b 101 (.w 15 [(11,(pG m.rule.n m.w).O),(15,(pG (IntKind.wrap .i64 ((wd.getD k 0) + (dH m.rule.n m.w))) m.w).O),(17,.box 3 1 (aa .i64) 0 (wd.set k (cL m f k)))] <| .w 11 [(1,.val (i6 ((k + 1 : Nat) : Int)))] <| .e) (.w 11 [(1,.val (i6 ((k + 1 : Nat) : Int)))] <| .e))) (.w 12 [(2,.val (dB false))] <| .b 101 (.w 15 [(11,(pG m.rule.n m.w).O),(15,(pG (IntKind.wrap .i64 ((wd.getD k 0) + (dH m.rule.n m.w))) m.w).O),(17,.box 3 1 (aa .i64) 0 (wd.set k (cL m f k)))] <| .w 11 [(1,.val (i6 ((k + 1 : Nat) : Int)))] <| .e) (.w 11 [(1,.val (i6 ((k + 1 : Nat) : Int)))] <| .e))) (.e))))) Try.func65 rfl rfl rfl (by kernel_rfl) ?_
 refine tt ⟨⟨by omega,List.length_replicate,fun x hx => by rw [List.eq_of_mem_replicate hx]; exact ⟨rfl,oK⟩⟩,tt ⟨?_,?_⟩⟩
 · refine ⟨fun hs0 => ?_,fun hs0 => ?_⟩
   · refine tt ⟨(bT hs0),tt (cd (fun hc18 => ?_) (fun hc18 => ?_))⟩
     · refine tt ⟨(yI f.p m.name (by omega)),tt ⟨fun hs1 => ?_,fun hs1 => ?_⟩⟩
       · refine ⟨fun hs2 => ?_,fun hs2 => ?_⟩
         · refine tt ⟨(vT hs1),tt ⟨ix,tt ⟨(nF hs2),tt ⟨ix,tt (cn (fun hc49 => ?_) (fun hc49 => ?_))⟩⟩⟩⟩
           · refine tt ⟨(-1),rfl,(?_ : (-1) = Aq m f)⟩
             · exact (by unfold Aq; rw [hr1]; (repeat' split) <;> first | rfl | omega | (simp_all; done) | (simp_all; omega))
           · refine ⟨(af (fun zz => (f.p.mems.getD zz au).name.toList == m.name.toList) f.p.mems.length),rfl,(?_ : (af (fun zz => (f.p.mems.getD zz au).name.toList == m.name.toList) f.p.mems.length) = Aq m f)⟩
             · exact (by unfold Aq; rw [hr1]; (repeat' split) <;> first | rfl | omega | (simp_all; done) | (simp_all; omega))
         · refine tt ⟨(vT hs1),tt ⟨ix,tt ⟨(nT hs2),tt ⟨(-1),rfl,(?_ : (-1) = Aq m f)⟩⟩⟩⟩
           · exact (by unfold Aq; rw [hr1]; (repeat' split) <;> first | rfl | omega | (simp_all; done) | (simp_all; omega))
       · refine tt ⟨(vF hs1),tt ⟨(af (fun zz => (f.p.mems.getD zz au).name.toList == m.name.toList) f.p.mems.length),rfl,(?_ : (af (fun zz => (f.p.mems.getD zz au).name.toList == m.name.toList) f.p.mems.length) = Aq m f)⟩⟩
         · exact (by unfold Aq; rw [hr1]; (repeat' split) <;> first | rfl | omega | (simp_all; done) | (simp_all; omega))
     · refine ⟨(-1),rfl,(?_ : (-1) = Aq m f)⟩
       · exact (by unfold Aq; rw [hr1]; (repeat' split) <;> first | rfl | omega | (simp_all; done) | (simp_all; omega))
   · refine tt ⟨(bF hs0),tt ⟨(-1),rfl,(?_ : (-1) = Aq m f)⟩⟩
     · exact (by unfold Aq; rw [hr1]; (repeat' split) <;> first | rfl | omega | (simp_all; done) | (simp_all; omega))
 · intro ixu hinv
   have hiu := hinv
   refine ⟨?_,?_⟩
   · refine ⟨fun hs3 => ?_,fun hs3 => ?_⟩
     · refine tt ⟨(bT hs3),tt (cd (fun hc57 => ?_) (fun hc57 => ?_))⟩
       · refine tt ⟨(yI f.p m.rule.src (by omega)),tt ⟨(af (fun zz => (f.p.mems.getD zz au).name.toList == m.rule.src.toList) f.p.mems.length),rfl,(?_ : (af (fun zz => (f.p.mems.getD zz au).name.toList == m.rule.src.toList) f.p.mems.length) = uj m f)⟩⟩
         · exact (by first | exact D0 (by assumption) (by omega) | exact D1 (fun hh => by have hh1 := hh.1; have hh2 := hh.2; first | omega | simp_all) hiu)
       · refine ⟨ixu,rfl,(?_ : ixu = uj m f)⟩
         · exact (by first | exact D0 (by assumption) (by omega) | exact D1 (fun hh => by have hh1 := hh.1; have hh2 := hh.2; first | omega | simp_all) hiu)
     · refine tt ⟨(bF hs3),tt ⟨ixu,rfl,(?_ : ixu = uj m f)⟩⟩
       · exact (by first | exact D0 (by assumption) (by omega) | exact D1 (fun hh => by have hh1 := hh.1; have hh2 := hh.2; first | omega | simp_all) hiu)
   · intro ixv hinv
     have hix := hinv
     refine tt ⟨rfl,⟨by omega,hix,rfl⟩,?_⟩
     intro k ixv wd hinv
     obtain ⟨hk,hix,hwd⟩ := hinv
     have hwl : wd.length = m.words.toNat := by rw [hwd,eE (by rw [List.length_replicate]; omega),List.length_replicate]
     have hxl : ixv < f.p.mems.length := by rw [hix]; exact H7 m f
     refine tt (cd (fun hc67 => ?_) (fun hc67 => ?_))
     · have hswi := hsw ixv.toNat
       refine ⟨fun hs4 => ?_,fun hs4 => ?_⟩
       · refine tt ⟨(vT hs4),tt ⟨ix,tt (cd (fun hc82 => ?_) (fun hc82 => ?_))⟩⟩
         · refine tt ⟨ix,tt ⟨ix,tt ⟨(fS ((f.s.mems.getD ixv.toNat []).getD k 0) m.w h1 h2),⟨ix,⟨⟨by first | omega | (rw [List.length_set]; omega),by simp only [List.map_set]; exact congrArg (fun z => List.set _ k [V.int .i64 z]) (H8 hix (by omega) (by omega))⟩,tt (cd (fun hc101 => ?_) (fun hc101 => ?_))⟩⟩⟩⟩⟩
           · refine tt ⟨ix,⟨⟨om,oK⟩,tt ⟨(fS m.rule.n m.w h1 h2),tt ⟨(fS (IntKind.wrap .i64 (((wd.set k (dT m f k)).getD k 0) + (dH m.rule.n m.w))) m.w h1 h2),⟨ix,⟨⟨by first | omega | (rw [List.length_set]; omega),by simp only [List.map_set]; exact congrArg (fun z => List.set _ k [V.int .i64 z]) (F1 hwl (by omega) hc101)⟩,tt ⟨w6,tt ⟨(k + 1,ixv,(wd.set k (dT m f k)).set k (cL m f k)),rfl,?_,(?_ : m.words.toNat - (k + 1) < m.words.toNat - k)⟩⟩⟩⟩⟩⟩⟩⟩
             · exact ⟨by omega,hix,by rw [List.set_set,hwd]; exact bU (by rw [List.length_replicate]; omega) rfl⟩
             · omega
           · refine tt ⟨w6,tt ⟨(k + 1,ixv,wd.set k (dT m f k)),rfl,?_,(?_ : m.words.toNat - (k + 1) < m.words.toNat - k)⟩⟩
             · exact ⟨by omega,hix,by rw [hwd]; exact bU (by rw [List.length_replicate]; omega) (yL hc101).symm⟩
             · omega
         · have hz0 : dT m f k = 0 := by first | exact D2 hix (by omega) | exact H9 hix (by omega)
           refine tt (cd (fun hc101 => ?_) (fun hc101 => ?_))
           · refine tt ⟨ix,⟨⟨om,oK⟩,tt ⟨(fS m.rule.n m.w h1 h2),tt ⟨(fS (IntKind.wrap .i64 ((wd.getD k 0) + (dH m.rule.n m.w))) m.w h1 h2),⟨ix,⟨⟨by first | omega | (rw [List.length_set]; omega),by simp only [List.map_set]; exact congrArg (fun z => List.set _ k [V.int .i64 z]) (Ar hwd (by omega) hc101 hz0)⟩,tt ⟨w6,tt ⟨(k + 1,ixv,wd.set k (cL m f k)),rfl,?_,(?_ : m.words.toNat - (k + 1) < m.words.toNat - k)⟩⟩⟩⟩⟩⟩⟩⟩
             · exact ⟨by omega,hix,by rw [hwd]; exact bU (by rw [List.length_replicate]; omega) rfl⟩
             · omega
           · refine tt ⟨w6,tt ⟨(k + 1,ixv,wd),rfl,?_,(?_ : m.words.toNat - (k + 1) < m.words.toNat - k)⟩⟩
             · exact ⟨by omega,hix,by rw [hwd]; exact fR (d := 0) (by rw [List.length_replicate]; omega) (by rw [cC,← yL hc101,hz0])⟩
             · omega
       · have hz0 : dT m f k = 0 := D2 hix (by first | assumption | (intro h; omega))
         refine tt ⟨(vF hs4),tt (cd (fun hc101 => ?_) (fun hc101 => ?_))⟩
         · refine tt ⟨ix,⟨⟨om,oK⟩,tt ⟨(fS m.rule.n m.w h1 h2),tt ⟨(fS (IntKind.wrap .i64 ((wd.getD k 0) + (dH m.rule.n m.w))) m.w h1 h2),⟨ix,⟨⟨by first | omega | (rw [List.length_set]; omega),by simp only [List.map_set]; exact congrArg (fun z => List.set _ k [V.int .i64 z]) (Ar hwd (by omega) hc101 hz0)⟩,tt ⟨w6,tt ⟨(k + 1,ixv,wd.set k (cL m f k)),rfl,?_,(?_ : m.words.toNat - (k + 1) < m.words.toNat - k)⟩⟩⟩⟩⟩⟩⟩⟩
           · exact ⟨by omega,hix,by rw [hwd]; exact bU (by rw [List.length_replicate]; omega) rfl⟩
           · omega
         · refine tt ⟨w6,tt ⟨(k + 1,ixv,wd),rfl,?_,(?_ : m.words.toNat - (k + 1) < m.words.toNat - k)⟩⟩
           · exact ⟨by omega,hix,by rw [hwd]; exact fR (d := 0) (by rw [List.length_replicate]; omega) (by rw [cC,← yL hc101,hz0])⟩
           · omega
     · refine tt (congrArg _ (?_ : wd = (tab (cL m f) m.words.toNat)))
       rw [hwd,show k = (List.replicate m.words.toNat (0 : Int)).length from by rw [List.length_replicate]; omega,dg (Nat.le_refl _),List.length_replicate]
end Go.Proofs.Ytnlmlkbaflmgcaa
