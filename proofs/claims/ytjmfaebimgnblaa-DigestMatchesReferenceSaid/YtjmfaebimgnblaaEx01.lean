/-
  The examples of the digest's laws are true.
-/
import Derived.Test.YtjmfaebimgnblaaPaths
import Derived.Deep.Cut
namespace Go.Proofs.Ytjmfaebimgnblaa
open Go.RowKit

set_option maxRecDepth 100000 in
set_option maxHeartbeats 2000000 in
theorem examples01_calls (w : World) : Calls Try.prog 15 #[] w fun e w' => e = .returned (.bool true) ∧ Below w.heap.size w w' := by
  go_enter Try.func15, Try.ntmps15
  go_upto_region 2 with (fail)
  have HL : Hid (IsInts .u64 (fun _ => True) (w.alloc (.cells #[.int .u64 5, .int .u64 6, .int .u64 7] 33)) (.slice (some ⟨w.heap.size, 0, none⟩) 3 3) [5, 6, 7]) := IsRow.built _ _ [5, 6, 7] rfl trivial rfl rfl (by simp [maxLen])
  have HW : Hid (Below w.heap.size w (w.alloc (.cells #[.int .u64 5, .int .u64 6, .int .u64 7] 33))) := (Below.refl _ w).alloc (Nat.le_refl _) _
  generalize w.alloc (.cells #[.int .u64 5, .int .u64 6, .int .u64 7] 33) = w0 at *
  refine wp_region_text 12 [RKnown (.slice (some ⟨w.heap.size, 0, none⟩) 3 3) [(1, none)],
    RFact (fun Sx vx wx => PathsV [joinF 5 6] 0 Sx vx wx) (PathsV.stable [joinF 5 6] 0) [(8, some 0)],
    RKnown (.slice (some ⟨w.heap.size, 0, none⟩) 3 3) [(1, none)],
    RFact (fun Sx vx wx => PathsV [6, 7] 0 Sx vx wx) (PathsV.stable [6, 7] 0) [(10, some 2)],
    RKnown (.slice (some ⟨w.heap.size, 0, none⟩) 3 3) [(1, none)],
    RFact (fun Sx vx wx => PathsV [] 1 Sx vx wx) (PathsV.stable [] 1) [(12, some 4)],
    RAlloc 29 #[.slice none 0 0, .int .i64 0],
    RAlloc 29 #[.slice none 0 0, .int .i64 0],
    RAlloc 29 #[.slice none 0 0, .int .i64 0],
    RFill 6 (fun Sx vx wx => BoxOf 29 (fun Sb vb wb => PathsV [joinF 5 6] 0 Sb vb wb) Sx vx wx) (BoxOf.stable 29 (PathsV.stable [joinF 5 6] 0)) [(9, some 1)],
    RFill 7 (fun Sx vx wx => BoxOf 29 (fun Sb vb wb => PathsV [6, 7] 0 Sb vb wb) Sx vx wx) (BoxOf.stable 29 (PathsV.stable [6, 7] 0)) [(11, some 3)],
    RFill 8 (fun Sx vx wx => BoxOf 29 (fun Sb vb wb => PathsV [] 1 Sb vb wb) Sx vx wx) (BoxOf.stable 29 (PathsV.stable [] 1)) [(13, some 5)]] (by kernel_rfl) (by kernel_rfl) ?_ ?_
  · refine ⟨?_, ?_, ?_, ?_, ?_, ?_, ?_, ?_, ?_, ?_, ?_, ?_, trivial⟩
    · refine OpOk.grow rfl (GuardYes.none rfl) ?_
      intro ρ S w1 hc hB hS hI
      have h1 : ρ (.tmp 1) = .slice (some ⟨w.heap.size, 0, none⟩) 3 3 := And.left hI
      clear hI; have HB := Lib.hid hB; have HS := Lib.hid hS; clear hB hS
      exact Upd.of (ex_move rfl) ⟨Below.refl _ _, h1⟩
    · refine OpOk.grow rfl (GuardYes.none rfl) ?_
      intro ρ S w1 hc hB hS hI
      have h8 : ρ (.tmp 8) = .slice (some ⟨w.heap.size, 0, none⟩) 3 3 := And.left hI
      have hc1 := hc.const; have hc2 := hc.func
      clear hI; have HB := Lib.hid hB; have HS := Lib.hid hS; clear hB hS
      refine Upd.call (vs := #[.slice (some ⟨w.heap.size, 0, none⟩) 3 3, .int .i64 2]) rfl hc (by kernel_rfl) (by simp only [List.map_toArray, List.map_cons, List.map_nil, h8, hc.const]) ?_
      refine (pathsV_calls _ [5, 6, 7] _ _ S _ (by simp) (HL.out.base HB.out HS.out)).mono ?_
      rintro e w2 ⟨r, rfl, hr, hb2⟩
      exact ⟨_, rfl, hb2, hr⟩
    · refine OpOk.grow rfl (GuardYes.none rfl) ?_
      intro ρ S w1 hc hB hS hI
      have h1 : ρ (.tmp 1) = .slice (some ⟨w.heap.size, 0, none⟩) 3 3 := And.left hI
      clear hI; have HB := Lib.hid hB; have HS := Lib.hid hS; clear hB hS
      exact Upd.of (ex_move rfl) ⟨Below.refl _ _, h1⟩
    · refine OpOk.grow rfl (GuardYes.none rfl) ?_
      intro ρ S w1 hc hB hS hI
      have h10 : ρ (.tmp 10) = .slice (some ⟨w.heap.size, 0, none⟩) 3 3 := And.left hI
      have hc1 := hc.const; have hc2 := hc.func
      clear hI; have HB := Lib.hid hB; have HS := Lib.hid hS; clear hB hS
      refine Upd.call (vs := #[.slice (some ⟨w.heap.size, 0, none⟩) 3 3, .int .i64 0]) rfl hc (by kernel_rfl) (by simp only [List.map_toArray, List.map_cons, List.map_nil, h10, hc.const]) ?_
      refine (pathsV_calls _ [5, 6, 7] _ _ S _ (by simp) (HL.out.base HB.out HS.out)).mono ?_
      rintro e w2 ⟨r, rfl, hr, hb2⟩
      exact ⟨_, rfl, hb2, hr⟩
    · refine OpOk.grow rfl (GuardYes.none rfl) ?_
      intro ρ S w1 hc hB hS hI
      have h1 : ρ (.tmp 1) = .slice (some ⟨w.heap.size, 0, none⟩) 3 3 := And.left hI
      clear hI; have HB := Lib.hid hB; have HS := Lib.hid hS; clear hB hS
      exact Upd.of (ex_move rfl) ⟨Below.refl _ _, h1⟩
    · refine OpOk.grow rfl (GuardYes.none rfl) ?_
      intro ρ S w1 hc hB hS hI
      have h12 : ρ (.tmp 12) = .slice (some ⟨w.heap.size, 0, none⟩) 3 3 := And.left hI
      have hc1 := hc.const; have hc2 := hc.func
      clear hI; have HB := Lib.hid hB; have HS := Lib.hid hS; clear hB hS
      refine Upd.call (vs := #[.slice (some ⟨w.heap.size, 0, none⟩) 3 3, .int .i64 3]) rfl hc (by kernel_rfl) (by simp only [List.map_toArray, List.map_cons, List.map_nil, h12, hc.const]) ?_
      refine (pathsV_calls _ [5, 6, 7] _ _ S _ (by simp) (HL.out.base HB.out HS.out)).mono ?_
      rintro e w2 ⟨r, rfl, hr, hb2⟩
      exact ⟨_, rfl, hb2, hr⟩
    · refine OpOk.alloc rfl (GuardYes.none rfl) (fun ρ w => ?_)
      go_simp
    · refine OpOk.alloc rfl (GuardYes.none rfl) (fun ρ w => ?_)
      go_simp
    · refine OpOk.alloc rfl (GuardYes.none rfl) (fun ρ w => ?_)
      go_simp
    · refine OpOk.fill rfl rfl rfl (GuardYes.none rfl) ?_
      intro ρ S w1 b hc hB hS hI hptr hblk hpriv
      have h9 : PathsV [joinF 5 6] 0 S (ρ (.tmp 9)) w1 := And.left hI
      clear hI; have HB := Lib.hid hB; have HS := Lib.hid hS; clear hB hS
      exact fill_box (sz := 2) (PathsV.stable [joinF 5 6] 0) (PathsV.shape [joinF 5 6] 0) rfl hptr hblk hpriv (by kernel_rfl) rfl h9
    · refine OpOk.fill rfl rfl rfl (GuardYes.none rfl) ?_
      intro ρ S w1 b hc hB hS hI hptr hblk hpriv
      have h11 : PathsV [6, 7] 0 S (ρ (.tmp 11)) w1 := And.left hI
      clear hI; have HB := Lib.hid hB; have HS := Lib.hid hS; clear hB hS
      exact fill_box (sz := 2) (PathsV.stable [6, 7] 0) (PathsV.shape [6, 7] 0) rfl hptr hblk hpriv (by kernel_rfl) rfl h11
    · refine OpOk.fill rfl rfl rfl (GuardYes.none rfl) ?_
      intro ρ S w1 b hc hB hS hI hptr hblk hpriv
      have h13 : PathsV [] 1 S (ρ (.tmp 13)) w1 := And.left hI
      clear hI; have HB := Lib.hid hB; have HS := Lib.hid hS; clear hB hS
      exact fill_box (sz := 2) (PathsV.stable [] 1) (PathsV.shape [] 1) rfl hptr hblk hpriv (by kernel_rfl) rfl h13
  · intro env1 Sr1 wr1 hB1 hSr1 hF1
    have f0 : env1 0 = .slice (some ⟨w.heap.size, 0, none⟩) 3 3 := hF1 0 (by decide) rfl
    have f1 : PathsV [joinF 5 6] 0 Sr1 (env1 1) wr1 := hF1 1 (by decide) rfl
    have f2 : env1 2 = .slice (some ⟨w.heap.size, 0, none⟩) 3 3 := hF1 2 (by decide) rfl
    have f3 : PathsV [6, 7] 0 Sr1 (env1 3) wr1 := hF1 3 (by decide) rfl
    have f4 : env1 4 = .slice (some ⟨w.heap.size, 0, none⟩) 3 3 := hF1 4 (by decide) rfl
    have f5 : PathsV [] 1 Sr1 (env1 5) wr1 := hF1 5 (by decide) rfl
    have f9 : BoxOf 29 (fun Sb vb wb => PathsV [joinF 5 6] 0 Sb vb wb) Sr1 (env1 6) wr1 := hF1 9 (by decide) rfl
    have f10 : BoxOf 29 (fun Sb vb wb => PathsV [6, 7] 0 Sb vb wb) Sr1 (env1 7) wr1 := hF1 10 (by decide) rfl
    have f11 : BoxOf 29 (fun Sb vb wb => PathsV [] 1 Sb vb wb) Sr1 (env1 8) wr1 := hF1 11 (by decide) rfl
    clear hF1
    simp only [List.take_succ_cons, List.take_nil, List.drop_nil, List.drop_succ_cons, putAll, Act.put, List.setIfInBounds_toArray, List.set_cons_succ, List.set_cons_zero, Nat.reduceAdd, f0, f2, f4]
    clear f0 f2 f4
    generalize env1 1 = e9 at *
    generalize env1 3 = e11 at *
    generalize env1 5 = e13 at *
    generalize env1 6 = e2 at *
    generalize env1 7 = e3 at *
    generalize env1 8 = e4 at *
    refine wpList_nil ?_
    obtain ⟨b2, cs2, rfl, -, hb2, p2, c2, hv2, hr2⟩ := f9
    simp only [Value.agg.injEq] at hv2
    subst hv2
    have HB2 := Lib.hid hb2; have HR2 := Lib.hid hr2
    clear hb2 hr2
    obtain ⟨b3, cs3, rfl, -, hb3, p3, c3, hv3, hr3⟩ := f10
    simp only [Value.agg.injEq] at hv3
    subst hv3
    have HB3 := Lib.hid hb3; have HR3 := Lib.hid hr3
    clear hb3 hr3
    obtain ⟨b4, cs4, rfl, -, hb4, p4, c4, hv4, hr4⟩ := f11
    simp only [Value.agg.injEq] at hv4
    subst hv4
    have HB4 := Lib.hid hb4; have HR4 := Lib.hid hr4
    clear hb4 hr4
    have HL := Lib.hid (HL.out.later hB1)
    have HW := Lib.hid (HW.out.trans (hB1.mono HW.out.size))
    clear hB1 hSr1
    go_upto_region 3 with (fail)
    refine wp_region_text 2 [RKnown (.int .u64 (joinF 5 6)) [],
      RKnown (.int .u64 (joinF 5 6)) [(14, some 0)]] (by kernel_rfl) (by kernel_rfl) ?_ ?_
    · refine ⟨?_, ?_, trivial⟩
      · refine OpOk.grow rfl (GuardYes.none rfl) ?_
        intro ρ S w1 hc hB hS hI
        have hc1 := hc.const; have hc2 := hc.func
        clear hI; have HB := Lib.hid hB; have HS := Lib.hid hS; clear hB hS
        refine Upd.call (vs := #[.int .u64 5, .int .u64 6]) rfl hc (by kernel_rfl) (by simp only [List.map_toArray, List.map_cons, List.map_nil, hc.const]) ?_
        refine (join_calls _ _ _).mono ?_
        rintro e w2 ⟨rfl, hb2⟩
        exact ⟨_, rfl, hb2, rfl⟩
      · refine OpOk.grow rfl (GuardYes.none rfl) ?_
        intro ρ S w1 hc hB hS hI
        have h14 : ρ (.tmp 14) = .int .u64 (joinF 5 6) := And.left hI
        clear hI; have HB := Lib.hid hB; have HS := Lib.hid hS; clear hB hS
        exact Upd.of (ex_assign rfl) ⟨Below.refl _ _, h14⟩
    · intro env2 Sr2 wr2 hB2 hSr2 hF2
      have f0 : env2 0 = .int .u64 (joinF 5 6) := hF2 0 (by decide) rfl
      have f1 : env2 1 = .int .u64 (joinF 5 6) := hF2 1 (by decide) rfl
      clear hF2
      simp only [List.take_succ_cons, List.take_nil, List.drop_nil, List.drop_succ_cons, putAll, Act.put, List.setIfInBounds_toArray, List.set_cons_succ, List.set_cons_zero, Nat.reduceAdd, f0, f1]
      clear f0 f1
      refine wpList_nil ?_
      have HL := Lib.hid (HL.out.later hB2)
      have HB2 := Lib.hid (HB2.out.later hB2)
      have HB3 := Lib.hid (HB3.out.later hB2)
      have HB4 := Lib.hid (HB4.out.later hB2)
      have HR2 := Lib.hid (HR2.out.later hB2)
      have HR3 := Lib.hid (HR3.out.later hB2)
      have HR4 := Lib.hid (HR4.out.later hB2)
      have HW := Lib.hid (HW.out.trans (hB2.mono HW.out.size))
      clear hB2 hSr2
      go_upto_region 4 with (fail)
      refine wp_region_text 3 [RKnown (.slice (some ⟨w.heap.size, 0, none⟩) 3 3) [(1, none)],
        RKnown (.int .u64 (joinF (joinF 5 6) 7)) [(15, some 0)],
        RKnown (.int .u64 (joinF (joinF 5 6) 7)) [(16, some 1)]] (by kernel_rfl) (by kernel_rfl) ?_ ?_
      · refine ⟨?_, ?_, ?_, trivial⟩
        · refine OpOk.grow rfl (GuardYes.none rfl) ?_
          intro ρ S w1 hc hB hS hI
          have h1 : ρ (.tmp 1) = .slice (some ⟨w.heap.size, 0, none⟩) 3 3 := And.left hI
          clear hI; have HB := Lib.hid hB; have HS := Lib.hid hS; clear hB hS
          exact Upd.of (ex_move rfl) ⟨Below.refl _ _, h1⟩
        · refine OpOk.grow rfl (GuardYes.none rfl) ?_
          intro ρ S w1 hc hB hS hI
          have h15 : ρ (.tmp 15) = .slice (some ⟨w.heap.size, 0, none⟩) 3 3 := And.left hI
          have hc1 := hc.const; have hc2 := hc.func
          clear hI; have HB := Lib.hid hB; have HS := Lib.hid hS; clear hB hS
          refine Upd.call (vs := #[.slice (some ⟨w.heap.size, 0, none⟩) 3 3]) rfl hc (by kernel_rfl) (by simp only [List.map_toArray, List.map_cons, List.map_nil, h15]) ?_
          refine (root_calls _ [5, 6, 7] _ _ (by simp) (HL.out.base HB.out HS.out)).mono ?_
          rintro e w2 ⟨rfl, hb2⟩
          exact ⟨_, rfl, hb2, rfl⟩
        · refine OpOk.grow rfl (GuardYes.none rfl) ?_
          intro ρ S w1 hc hB hS hI
          have h16 : ρ (.tmp 16) = .int .u64 (joinF (joinF 5 6) 7) := And.left hI
          clear hI; have HB := Lib.hid hB; have HS := Lib.hid hS; clear hB hS
          exact Upd.of (ex_assign rfl) ⟨Below.refl _ _, h16⟩
      · intro env3 Sr3 wr3 hB3 hSr3 hF3
        have f0 : env3 0 = .slice (some ⟨w.heap.size, 0, none⟩) 3 3 := hF3 0 (by decide) rfl
        have f1 : env3 1 = .int .u64 (joinF (joinF 5 6) 7) := hF3 1 (by decide) rfl
        have f2 : env3 2 = .int .u64 (joinF (joinF 5 6) 7) := hF3 2 (by decide) rfl
        clear hF3
        simp only [List.take_succ_cons, List.take_nil, List.drop_nil, List.drop_succ_cons, putAll, Act.put, List.setIfInBounds_toArray, List.set_cons_succ, List.set_cons_zero, Nat.reduceAdd, f0, f1, f2]
        clear f0 f1 f2
        refine wpList_nil ?_
        have HL := Lib.hid (HL.out.later hB3)
        have HB2 := Lib.hid (HB2.out.later hB3)
        have HB3 := Lib.hid (HB3.out.later hB3)
        have HB4 := Lib.hid (HB4.out.later hB3)
        have HR2 := Lib.hid (HR2.out.later hB3)
        have HR3 := Lib.hid (HR3.out.later hB3)
        have HR4 := Lib.hid (HR4.out.later hB3)
        have HW := Lib.hid (HW.out.trans (hB3.mono HW.out.size))
        clear hB3 hSr3
        go_upto_region 5 with (fail)
        refine wp_region_text 45 [RKnown (.pointer (some ⟨b2, 1, none⟩)) [(2, none)],
          RKnown (.int .i64 0) [(17, some 0)],
          RKnown (.bool false) [(18, some 1)],
          RKnown (.bool false) [(19, some 2)],
          RKnown (.pointer (some ⟨b3, 1, none⟩)) [(3, none)],
          RKnown (.int .i64 0) [(21, some 4)],
          RKnown (.bool false) [(22, some 5)],
          RKnown (.bool false) [(20, some 3), (23, some 6)],
          RKnown (.bool false) [(24, some 7)],
          RKnown (.pointer (some ⟨b4, 1, none⟩)) [(4, none)],
          RKnown (.int .i64 1) [(26, some 9)],
          RKnown (.bool false) [(27, some 10)],
          RKnown (.bool false) [(25, some 8), (28, some 11)],
          RKnown (.bool false) [(29, some 12)],
          RKnown (.pointer (some ⟨b2, 0, none⟩)) [(2, none)],
          RKnown (.slice p2 1 c2) [(31, some 14)],
          RKnown (.int .u64 (joinF 5 6)) [(5, none)],
          RFact (fun Sx vx wx => IsInts .u64 Sx wx vx [joinF 5 6]) (IsRow.stable _ _) [(33, some 16)],
          RKnown (.bool true) [(32, some 15), (34, some 17)],
          RKnown (.bool false) [(35, some 18)],
          RKnown (.bool false) [(30, some 13), (36, some 19)],
          RKnown (.bool false) [(37, some 20)],
          RKnown (.pointer (some ⟨b3, 0, none⟩)) [(3, none)],
          RKnown (.slice p3 2 c3) [(39, some 22)],
          RFact (fun Sx vx wx => IsInts .u64 Sx wx vx [6, 7]) (IsRow.stable _ _) [],
          RKnown (.bool true) [(40, some 23), (41, some 24)],
          RKnown (.bool false) [(42, some 25)],
          RKnown (.bool false) [(38, some 21), (43, some 26)],
          RKnown (.bool false) [(44, some 27)],
          RKnown (.int .u64 (joinF (joinF 5 6) 7)) [(6, none)],
          RKnown (.int .u64 (joinF 5 6)) [(5, none)],
          RKnown (.int .u64 (joinF (joinF 5 6) 7)) [(47, some 30)],
          RKnown (.bool false) [(46, some 29), (48, some 31)],
          RKnown (.bool false) [(45, some 28), (49, some 32)],
          RKnown (.bool false) [(50, some 33)],
          RKnown (.slice (some ⟨w.heap.size, 0, none⟩) 3 3) [(1, none)],
          RKnown (.slice (some ⟨w.heap.size, 0, none⟩) 1 3) [(52, some 35)],
          RKnown (.int .u64 5) [(53, some 36)],
          RKnown (.bool false) [(54, some 37)],
          RKnown (.bool false) [(51, some 34), (55, some 38)],
          RKnown (.bool false) [(56, some 39)],
          RKnown (.int .u64 (joinF 5 6)) [(5, none)],
          RKnown (.int .u64 (joinF 5 6)) [],
          RKnown (.bool false) [(58, some 41), (59, some 42)],
          RKnown (.bool false) [(57, some 40), (60, some 43)]] (by kernel_rfl) (by kernel_rfl) ?_ ?_
        · refine ⟨?_, ?_, ?_, ?_, ?_, ?_, ?_, ?_, ?_, ?_, ?_, ?_, ?_, ?_, ?_, ?_, ?_, ?_, ?_, ?_, ?_, ?_, ?_, ?_, ?_, ?_, ?_, ?_, ?_, ?_, ?_, ?_, ?_, ?_, ?_, ?_, ?_, ?_, ?_, ?_, ?_, ?_, ?_, ?_, ?_, trivial⟩
          · refine OpOk.grow rfl (GuardYes.none rfl) ?_
            intro ρ S w1 hc hB hS hI
            have h2 : ρ (.tmp 2) = .pointer (some ⟨b2, 0, none⟩) := And.left hI
            clear hI; have HB := Lib.hid hB; have HS := Lib.hid hS; clear hB hS
            refine Upd.hide fun R1 hR1 => ?_
            go_simp
            exact Upd.ok (hR1 _ _ ⟨Below.refl _ _, rfl⟩)
          · refine OpOk.grow rfl (GuardYes.none rfl) ?_
            intro ρ S w1 hc hB hS hI
            have h17 : ρ (.tmp 17) = .pointer (some ⟨b2, 1, none⟩) := And.left hI
            clear hI; have HB := Lib.hid hB; have HS := Lib.hid hS; clear hB hS
            have hcl := (HB2.out.later HB.out).cell 1 (v := .int .i64 0) rfl
            refine Upd.hide fun R1 hR1 => ?_
            go_simp
            exact Upd.ok (hR1 _ _ ⟨Below.refl _ _, rfl⟩)
          · refine OpOk.grow rfl (GuardYes.none rfl) ?_
            intro ρ S w1 hc hB hS hI
            have h18 : ρ (.tmp 18) = .int .i64 0 := And.left hI
            have hc1 := hc.const; have hc2 := hc.func
            clear hI; have HB := Lib.hid hB; have HS := Lib.hid hS; clear hB hS
            refine Upd.hide fun R1 hR1 => ?_
            go_simp
            exact Upd.ok (hR1 _ _ ⟨Below.refl _ _, by first | rfl | simp⟩)
          · refine OpOk.grow rfl (GuardYes.none rfl) ?_
            intro ρ S w1 hc hB hS hI
            have h19 : ρ (.tmp 19) = .bool false := And.left hI
            clear hI; have HB := Lib.hid hB; have HS := Lib.hid hS; clear hB hS
            exact Upd.of (ex_move rfl) ⟨Below.refl _ _, h19⟩
          · refine OpOk.grow rfl (GuardYes.some rfl (fun _ _ _ h => h)) ?_
            intro ρ S w1 hc hB hS hI
            have h3 : ρ (.tmp 3) = .pointer (some ⟨b3, 0, none⟩) := And.left hI
            clear hI; have HB := Lib.hid hB; have HS := Lib.hid hS; clear hB hS
            refine Upd.hide fun R1 hR1 => ?_
            go_simp
            exact Upd.ok (hR1 _ _ ⟨Below.refl _ _, rfl⟩)
          · refine OpOk.grow rfl (GuardYes.some rfl (fun _ _ _ h => h)) ?_
            intro ρ S w1 hc hB hS hI
            have h21 : ρ (.tmp 21) = .pointer (some ⟨b3, 1, none⟩) := And.left hI
            clear hI; have HB := Lib.hid hB; have HS := Lib.hid hS; clear hB hS
            have hcl := (HB3.out.later HB.out).cell 1 (v := .int .i64 0) rfl
            refine Upd.hide fun R1 hR1 => ?_
            go_simp
            exact Upd.ok (hR1 _ _ ⟨Below.refl _ _, rfl⟩)
          · refine OpOk.grow rfl (GuardYes.some rfl (fun _ _ _ h => h)) ?_
            intro ρ S w1 hc hB hS hI
            have h22 : ρ (.tmp 22) = .int .i64 0 := And.left hI
            have hc1 := hc.const; have hc2 := hc.func
            clear hI; have HB := Lib.hid hB; have HS := Lib.hid hS; clear hB hS
            refine Upd.hide fun R1 hR1 => ?_
            go_simp
            exact Upd.ok (hR1 _ _ ⟨Below.refl _ _, by first | rfl | simp⟩)
          · refine OpOk.grow rfl (GuardYes.none rfl) ?_
            intro ρ S w1 hc hB hS hI
            have h20 : ρ (.tmp 20) = .bool false := And.left hI
            have h23 : ρ (.tmp 23) = .bool false := And.left (And.right hI)
            have hc1 := hc.const; have hc2 := hc.func
            clear hI; have HB := Lib.hid hB; have HS := Lib.hid hS; clear hB hS
            exact Upd.of (ex_pick rfl h20) ⟨Below.refl _ _, h23⟩
          · refine OpOk.grow rfl (GuardYes.none rfl) ?_
            intro ρ S w1 hc hB hS hI
            have h24 : ρ (.tmp 24) = .bool false := And.left hI
            clear hI; have HB := Lib.hid hB; have HS := Lib.hid hS; clear hB hS
            exact Upd.of (ex_move rfl) ⟨Below.refl _ _, h24⟩
          · refine OpOk.grow rfl (GuardYes.some rfl (fun _ _ _ h => h)) ?_
            intro ρ S w1 hc hB hS hI
            have h4 : ρ (.tmp 4) = .pointer (some ⟨b4, 0, none⟩) := And.left hI
            clear hI; have HB := Lib.hid hB; have HS := Lib.hid hS; clear hB hS
            refine Upd.hide fun R1 hR1 => ?_
            go_simp
            exact Upd.ok (hR1 _ _ ⟨Below.refl _ _, rfl⟩)
          · refine OpOk.grow rfl (GuardYes.some rfl (fun _ _ _ h => h)) ?_
            intro ρ S w1 hc hB hS hI
            have h26 : ρ (.tmp 26) = .pointer (some ⟨b4, 1, none⟩) := And.left hI
            clear hI; have HB := Lib.hid hB; have HS := Lib.hid hS; clear hB hS
            have hcl := (HB4.out.later HB.out).cell 1 (v := .int .i64 1) rfl
            refine Upd.hide fun R1 hR1 => ?_
            go_simp
            exact Upd.ok (hR1 _ _ ⟨Below.refl _ _, rfl⟩)
          · refine OpOk.grow rfl (GuardYes.some rfl (fun _ _ _ h => h)) ?_
            intro ρ S w1 hc hB hS hI
            have h27 : ρ (.tmp 27) = .int .i64 1 := And.left hI
            have hc1 := hc.const; have hc2 := hc.func
            clear hI; have HB := Lib.hid hB; have HS := Lib.hid hS; clear hB hS
            refine Upd.hide fun R1 hR1 => ?_
            go_simp
            exact Upd.ok (hR1 _ _ ⟨Below.refl _ _, by first | rfl | simp⟩)
          · refine OpOk.grow rfl (GuardYes.none rfl) ?_
            intro ρ S w1 hc hB hS hI
            have h25 : ρ (.tmp 25) = .bool false := And.left hI
            have h28 : ρ (.tmp 28) = .bool false := And.left (And.right hI)
            have hc1 := hc.const; have hc2 := hc.func
            clear hI; have HB := Lib.hid hB; have HS := Lib.hid hS; clear hB hS
            exact Upd.of (ex_pick rfl h25) ⟨Below.refl _ _, h28⟩
          · refine OpOk.grow rfl (GuardYes.none rfl) ?_
            intro ρ S w1 hc hB hS hI
            have h29 : ρ (.tmp 29) = .bool false := And.left hI
            clear hI; have HB := Lib.hid hB; have HS := Lib.hid hS; clear hB hS
            exact Upd.of (ex_move rfl) ⟨Below.refl _ _, h29⟩
          · refine OpOk.grow rfl (GuardYes.some rfl (fun _ _ _ h => h)) ?_
            intro ρ S w1 hc hB hS hI
            have h2 : ρ (.tmp 2) = .pointer (some ⟨b2, 0, none⟩) := And.left hI
            clear hI; have HB := Lib.hid hB; have HS := Lib.hid hS; clear hB hS
            refine Upd.hide fun R1 hR1 => ?_
            go_simp
            exact Upd.ok (hR1 _ _ ⟨Below.refl _ _, rfl⟩)
          · refine OpOk.grow rfl (GuardYes.some rfl (fun _ _ _ h => h)) ?_
            intro ρ S w1 hc hB hS hI
            have h31 : ρ (.tmp 31) = .pointer (some ⟨b2, 0, none⟩) := And.left hI
            clear hI; have HB := Lib.hid hB; have HS := Lib.hid hS; clear hB hS
            have hcl := (HB2.out.later HB.out).cell 0 (v := .slice p2 1 c2) rfl
            refine Upd.hide fun R1 hR1 => ?_
            go_simp
            exact Upd.ok (hR1 _ _ ⟨Below.refl _ _, rfl⟩)
          · refine OpOk.grow rfl (GuardYes.some rfl (fun _ _ _ h => h)) ?_
            intro ρ S w1 hc hB hS hI
            have h5 : ρ (.tmp 5) = .int .u64 (joinF 5 6) := And.left hI
            clear hI; have HB := Lib.hid hB; have HS := Lib.hid hS; clear hB hS
            exact Upd.of (ex_move rfl) ⟨Below.refl _ _, h5⟩
          · refine OpOk.grow rfl (GuardYes.some rfl (fun _ _ _ h => h)) ?_
            intro ρ S w1 hc hB hS hI
            have h33 : ρ (.tmp 33) = .int .u64 (joinF 5 6) := And.left hI
            clear hI; have HB := Lib.hid hB; have HS := Lib.hid hS; clear hB hS
            refine Upd.hide fun R1 hR1 => ?_
            go_simp
            exact Upd.ok (hR1 _ _ ⟨(Below.refl _ _).alloc (Nat.le_refl _) _, IsRow.built _ _ [joinF 5 6] rfl (.inr (Nat.le_refl _)) rfl rfl (by simp [maxLen])⟩)
          · refine OpOk.grow rfl (GuardYes.some rfl (fun _ _ _ h => h)) ?_
            intro ρ S w1 hc hB hS hI
            have h32 : ρ (.tmp 32) = .slice p2 1 c2 := And.left hI
            have h34 : IsInts .u64 S w1 (ρ (.tmp 34)) [joinF 5 6] := And.left (And.right hI)
            have hc1 := hc.const; have hc2 := hc.func
            clear hI; have HB := Lib.hid hB; have HS := Lib.hid hS; clear hB hS
            refine Upd.call (vs := #[.slice p2 1 c2, ρ (.tmp 34)]) rfl hc (by kernel_rfl) (by simp only [List.map_toArray, List.map_cons, List.map_nil, h32]) ?_
            refine (Same_calls _ _ _ _ S _ _ (HR2.out.base HB.out HS.out) h34).mono ?_
            rintro e w2 ⟨rfl, hb2⟩
            exact ⟨_, rfl, hb2, congrArg Value.bool (decide_eq_true rfl)⟩
          · refine OpOk.grow rfl (GuardYes.some rfl (fun _ _ _ h => h)) ?_
            intro ρ S w1 hc hB hS hI
            have h35 : ρ (.tmp 35) = .bool true := And.left hI
            clear hI; have HB := Lib.hid hB; have HS := Lib.hid hS; clear hB hS
            refine Upd.hide fun R1 hR1 => ?_
            go_simp
            exact Upd.ok (hR1 _ _ ⟨Below.refl _ _, by first | rfl | simp⟩)
          · refine OpOk.grow rfl (GuardYes.none rfl) ?_
            intro ρ S w1 hc hB hS hI
            have h30 : ρ (.tmp 30) = .bool false := And.left hI
            have h36 : ρ (.tmp 36) = .bool false := And.left (And.right hI)
            have hc1 := hc.const; have hc2 := hc.func
            clear hI; have HB := Lib.hid hB; have HS := Lib.hid hS; clear hB hS
            exact Upd.of (ex_pick rfl h30) ⟨Below.refl _ _, h36⟩
          · refine OpOk.grow rfl (GuardYes.none rfl) ?_
            intro ρ S w1 hc hB hS hI
            have h37 : ρ (.tmp 37) = .bool false := And.left hI
            clear hI; have HB := Lib.hid hB; have HS := Lib.hid hS; clear hB hS
            exact Upd.of (ex_move rfl) ⟨Below.refl _ _, h37⟩
          · refine OpOk.grow rfl (GuardYes.some rfl (fun _ _ _ h => h)) ?_
            intro ρ S w1 hc hB hS hI
            have h3 : ρ (.tmp 3) = .pointer (some ⟨b3, 0, none⟩) := And.left hI
            clear hI; have HB := Lib.hid hB; have HS := Lib.hid hS; clear hB hS
            refine Upd.hide fun R1 hR1 => ?_
            go_simp
            exact Upd.ok (hR1 _ _ ⟨Below.refl _ _, rfl⟩)
          · refine OpOk.grow rfl (GuardYes.some rfl (fun _ _ _ h => h)) ?_
            intro ρ S w1 hc hB hS hI
            have h39 : ρ (.tmp 39) = .pointer (some ⟨b3, 0, none⟩) := And.left hI
            clear hI; have HB := Lib.hid hB; have HS := Lib.hid hS; clear hB hS
            have hcl := (HB3.out.later HB.out).cell 0 (v := .slice p3 2 c3) rfl
            refine Upd.hide fun R1 hR1 => ?_
            go_simp
            exact Upd.ok (hR1 _ _ ⟨Below.refl _ _, rfl⟩)
          · refine OpOk.grow rfl (GuardYes.some rfl (fun _ _ _ h => h)) ?_
            intro ρ S w1 hc hB hS hI
            have hc1 := hc.const; have hc2 := hc.func
            clear hI; have HB := Lib.hid hB; have HS := Lib.hid hS; clear hB hS
            refine Upd.hide fun R1 hR1 => ?_
            go_simp
            exact Upd.ok (hR1 _ _ ⟨(Below.refl _ _).alloc (Nat.le_refl _) _, IsRow.built _ _ [6, 7] rfl (.inr (Nat.le_refl _)) rfl rfl (by simp [maxLen])⟩)
          · refine OpOk.grow rfl (GuardYes.some rfl (fun _ _ _ h => h)) ?_
            intro ρ S w1 hc hB hS hI
            have h40 : ρ (.tmp 40) = .slice p3 2 c3 := And.left hI
            have h41 : IsInts .u64 S w1 (ρ (.tmp 41)) [6, 7] := And.left (And.right hI)
            have hc1 := hc.const; have hc2 := hc.func
            clear hI; have HB := Lib.hid hB; have HS := Lib.hid hS; clear hB hS
            refine Upd.call (vs := #[.slice p3 2 c3, ρ (.tmp 41)]) rfl hc (by kernel_rfl) (by simp only [List.map_toArray, List.map_cons, List.map_nil, h40]) ?_
            refine (Same_calls _ _ _ _ S _ _ (HR3.out.base HB.out HS.out) h41).mono ?_
            rintro e w2 ⟨rfl, hb2⟩
            exact ⟨_, rfl, hb2, congrArg Value.bool (decide_eq_true rfl)⟩
          · refine OpOk.grow rfl (GuardYes.some rfl (fun _ _ _ h => h)) ?_
            intro ρ S w1 hc hB hS hI
            have h42 : ρ (.tmp 42) = .bool true := And.left hI
            clear hI; have HB := Lib.hid hB; have HS := Lib.hid hS; clear hB hS
            refine Upd.hide fun R1 hR1 => ?_
            go_simp
            exact Upd.ok (hR1 _ _ ⟨Below.refl _ _, by first | rfl | simp⟩)
          · refine OpOk.grow rfl (GuardYes.none rfl) ?_
            intro ρ S w1 hc hB hS hI
            have h38 : ρ (.tmp 38) = .bool false := And.left hI
            have h43 : ρ (.tmp 43) = .bool false := And.left (And.right hI)
            have hc1 := hc.const; have hc2 := hc.func
            clear hI; have HB := Lib.hid hB; have HS := Lib.hid hS; clear hB hS
            exact Upd.of (ex_pick rfl h38) ⟨Below.refl _ _, h43⟩
          · refine OpOk.grow rfl (GuardYes.none rfl) ?_
            intro ρ S w1 hc hB hS hI
            have h44 : ρ (.tmp 44) = .bool false := And.left hI
            clear hI; have HB := Lib.hid hB; have HS := Lib.hid hS; clear hB hS
            exact Upd.of (ex_move rfl) ⟨Below.refl _ _, h44⟩
          · refine OpOk.grow rfl (GuardYes.some rfl (fun _ _ _ h => h)) ?_
            intro ρ S w1 hc hB hS hI
            have h6 : ρ (.tmp 6) = .int .u64 (joinF (joinF 5 6) 7) := And.left hI
            clear hI; have HB := Lib.hid hB; have HS := Lib.hid hS; clear hB hS
            exact Upd.of (ex_move rfl) ⟨Below.refl _ _, h6⟩
          · refine OpOk.grow rfl (GuardYes.some rfl (fun _ _ _ h => h)) ?_
            intro ρ S w1 hc hB hS hI
            have h5 : ρ (.tmp 5) = .int .u64 (joinF 5 6) := And.left hI
            clear hI; have HB := Lib.hid hB; have HS := Lib.hid hS; clear hB hS
            exact Upd.of (ex_move rfl) ⟨Below.refl _ _, h5⟩
          · refine OpOk.grow rfl (GuardYes.some rfl (fun _ _ _ h => h)) ?_
            intro ρ S w1 hc hB hS hI
            have h47 : ρ (.tmp 47) = .int .u64 (joinF 5 6) := And.left hI
            have hc1 := hc.const; have hc2 := hc.func
            clear hI; have HB := Lib.hid hB; have HS := Lib.hid hS; clear hB hS
            refine Upd.call (vs := #[.int .u64 (joinF 5 6), .int .u64 7]) rfl hc (by kernel_rfl) (by simp only [List.map_toArray, List.map_cons, List.map_nil, h47, hc.const]) ?_
            refine (join_calls _ _ _).mono ?_
            rintro e w2 ⟨rfl, hb2⟩
            exact ⟨_, rfl, hb2, rfl⟩
          · refine OpOk.grow rfl (GuardYes.some rfl (fun _ _ _ h => h)) ?_
            intro ρ S w1 hc hB hS hI
            have h46 : ρ (.tmp 46) = .int .u64 (joinF (joinF 5 6) 7) := And.left hI
            have h48 : ρ (.tmp 48) = .int .u64 (joinF (joinF 5 6) 7) := And.left (And.right hI)
            clear hI; have HB := Lib.hid hB; have HS := Lib.hid hS; clear hB hS
            refine Upd.hide fun R1 hR1 => ?_
            go_simp
            exact Upd.ok (hR1 _ _ ⟨Below.refl _ _, by first | rfl | simp⟩)
          · refine OpOk.grow rfl (GuardYes.none rfl) ?_
            intro ρ S w1 hc hB hS hI
            have h45 : ρ (.tmp 45) = .bool false := And.left hI
            have h49 : ρ (.tmp 49) = .bool false := And.left (And.right hI)
            have hc1 := hc.const; have hc2 := hc.func
            clear hI; have HB := Lib.hid hB; have HS := Lib.hid hS; clear hB hS
            exact Upd.of (ex_pick rfl h45) ⟨Below.refl _ _, h49⟩
          · refine OpOk.grow rfl (GuardYes.none rfl) ?_
            intro ρ S w1 hc hB hS hI
            have h50 : ρ (.tmp 50) = .bool false := And.left hI
            clear hI; have HB := Lib.hid hB; have HS := Lib.hid hS; clear hB hS
            exact Upd.of (ex_move rfl) ⟨Below.refl _ _, h50⟩
          · refine OpOk.grow rfl (GuardYes.some rfl (fun _ _ _ h => h)) ?_
            intro ρ S w1 hc hB hS hI
            have h1 : ρ (.tmp 1) = .slice (some ⟨w.heap.size, 0, none⟩) 3 3 := And.left hI
            clear hI; have HB := Lib.hid hB; have HS := Lib.hid hS; clear hB hS
            exact Upd.of (ex_move rfl) ⟨Below.refl _ _, h1⟩
          · refine OpOk.grow rfl (GuardYes.some rfl (fun _ _ _ h => h)) ?_
            intro ρ S w1 hc hB hS hI
            have h52 : ρ (.tmp 52) = .slice (some ⟨w.heap.size, 0, none⟩) 3 3 := And.left hI
            have hc1 := hc.const; have hc2 := hc.func
            clear hI; have HB := Lib.hid hB; have HS := Lib.hid hS; clear hB hS
            exact Upd.of (ex_slice_hi (m := 1) (sz := 1) rfl Try.underlying22 (by kernel_rfl) h52 (hc.const _) (by omega)) ⟨Below.refl _ _, rfl⟩
          · refine OpOk.grow rfl (GuardYes.some rfl (fun _ _ _ h => h)) ?_
            intro ρ S w1 hc hB hS hI
            have h53 : ρ (.tmp 53) = .slice (some ⟨w.heap.size, 0, none⟩) 1 3 := And.left hI
            have hc1 := hc.const; have hc2 := hc.func
            clear hI; have HB := Lib.hid hB; have HS := Lib.hid hS; clear hB hS
            refine Upd.call (vs := #[.slice (some ⟨w.heap.size, 0, none⟩) 1 3]) rfl hc (by kernel_rfl) (by simp only [List.map_toArray, List.map_cons, List.map_nil, h53]) ?_
            refine (root_calls _ [5] _ _ (by simp) ((HL.out.base HB.out HS.out).hi 1 (by omega))).mono ?_
            rintro e w2 ⟨rfl, hb2⟩
            exact ⟨_, rfl, hb2, rfl⟩
          · refine OpOk.grow rfl (GuardYes.some rfl (fun _ _ _ h => h)) ?_
            intro ρ S w1 hc hB hS hI
            have h54 : ρ (.tmp 54) = .int .u64 5 := And.left hI
            have hc1 := hc.const; have hc2 := hc.func
            clear hI; have HB := Lib.hid hB; have HS := Lib.hid hS; clear hB hS
            refine Upd.hide fun R1 hR1 => ?_
            go_simp
            exact Upd.ok (hR1 _ _ ⟨Below.refl _ _, by first | rfl | simp⟩)
          · refine OpOk.grow rfl (GuardYes.none rfl) ?_
            intro ρ S w1 hc hB hS hI
            have h51 : ρ (.tmp 51) = .bool false := And.left hI
            have h55 : ρ (.tmp 55) = .bool false := And.left (And.right hI)
            have hc1 := hc.const; have hc2 := hc.func
            clear hI; have HB := Lib.hid hB; have HS := Lib.hid hS; clear hB hS
            exact Upd.of (ex_pick rfl h51) ⟨Below.refl _ _, h55⟩
          · refine OpOk.grow rfl (GuardYes.none rfl) ?_
            intro ρ S w1 hc hB hS hI
            have h56 : ρ (.tmp 56) = .bool false := And.left hI
            clear hI; have HB := Lib.hid hB; have HS := Lib.hid hS; clear hB hS
            exact Upd.of (ex_move rfl) ⟨Below.refl _ _, h56⟩
          · refine OpOk.grow rfl (GuardYes.some rfl (fun _ _ _ h => h)) ?_
            intro ρ S w1 hc hB hS hI
            have h5 : ρ (.tmp 5) = .int .u64 (joinF 5 6) := And.left hI
            clear hI; have HB := Lib.hid hB; have HS := Lib.hid hS; clear hB hS
            exact Upd.of (ex_move rfl) ⟨Below.refl _ _, h5⟩
          · refine OpOk.grow rfl (GuardYes.some rfl (fun _ _ _ h => h)) ?_
            intro ρ S w1 hc hB hS hI
            have hc1 := hc.const; have hc2 := hc.func
            clear hI; have HB := Lib.hid hB; have HS := Lib.hid hS; clear hB hS
            refine Upd.call (vs := #[.int .u64 5, .int .u64 6]) rfl hc (by kernel_rfl) (by simp only [List.map_toArray, List.map_cons, List.map_nil, hc.const]) ?_
            refine (joinR_calls _ _ _).mono ?_
            rintro e w2 ⟨rfl, rfl⟩
            exact ⟨_, rfl, Below.refl _ _, rfl⟩
          · refine OpOk.grow rfl (GuardYes.some rfl (fun _ _ _ h => h)) ?_
            intro ρ S w1 hc hB hS hI
            have h58 : ρ (.tmp 58) = .int .u64 (joinF 5 6) := And.left hI
            have h59 : ρ (.tmp 59) = .int .u64 (joinF 5 6) := And.left (And.right hI)
            clear hI; have HB := Lib.hid hB; have HS := Lib.hid hS; clear hB hS
            refine Upd.hide fun R1 hR1 => ?_
            go_simp
            exact Upd.ok (hR1 _ _ ⟨Below.refl _ _, by first | rfl | simp⟩)
          · refine OpOk.grow rfl (GuardYes.none rfl) ?_
            intro ρ S w1 hc hB hS hI
            have h57 : ρ (.tmp 57) = .bool false := And.left hI
            have h60 : ρ (.tmp 60) = .bool false := And.left (And.right hI)
            have hc1 := hc.const; have hc2 := hc.func
            clear hI; have HB := Lib.hid hB; have HS := Lib.hid hS; clear hB hS
            exact Upd.of (ex_pick rfl h57) ⟨Below.refl _ _, h60⟩
        · intro env4 Sr4 wr4 hB4 hSr4 hF4
          have f0 : env4 0 = .pointer (some ⟨b2, 1, none⟩) := hF4 0 (by decide) rfl
          have f1 : env4 1 = .int .i64 0 := hF4 1 (by decide) rfl
          have f2 : env4 2 = .bool false := hF4 2 (by decide) rfl
          have f3 : env4 3 = .bool false := hF4 3 (by decide) rfl
          have f4 : env4 4 = .pointer (some ⟨b3, 1, none⟩) := hF4 4 (by decide) rfl
          have f5 : env4 5 = .int .i64 0 := hF4 5 (by decide) rfl
          have f6 : env4 6 = .bool false := hF4 6 (by decide) rfl
          have f7 : env4 7 = .bool false := hF4 7 (by decide) rfl
          have f8 : env4 8 = .bool false := hF4 8 (by decide) rfl
          have f9 : env4 9 = .pointer (some ⟨b4, 1, none⟩) := hF4 9 (by decide) rfl
          have f10 : env4 10 = .int .i64 1 := hF4 10 (by decide) rfl
          have f11 : env4 11 = .bool false := hF4 11 (by decide) rfl
          have f12 : env4 12 = .bool false := hF4 12 (by decide) rfl
          have f13 : env4 13 = .bool false := hF4 13 (by decide) rfl
          have f14 : env4 14 = .pointer (some ⟨b2, 0, none⟩) := hF4 14 (by decide) rfl
          have f15 : env4 15 = .slice p2 1 c2 := hF4 15 (by decide) rfl
          have f16 : env4 16 = .int .u64 (joinF 5 6) := hF4 16 (by decide) rfl
          have f17 : IsInts .u64 Sr4 wr4 (env4 17) [joinF 5 6] := hF4 17 (by decide) rfl
          have f18 : env4 18 = .bool true := hF4 18 (by decide) rfl
          have f19 : env4 19 = .bool false := hF4 19 (by decide) rfl
          have f20 : env4 20 = .bool false := hF4 20 (by decide) rfl
          have f21 : env4 21 = .bool false := hF4 21 (by decide) rfl
          have f22 : env4 22 = .pointer (some ⟨b3, 0, none⟩) := hF4 22 (by decide) rfl
          have f23 : env4 23 = .slice p3 2 c3 := hF4 23 (by decide) rfl
          have f24 : IsInts .u64 Sr4 wr4 (env4 24) [6, 7] := hF4 24 (by decide) rfl
          have f25 : env4 25 = .bool true := hF4 25 (by decide) rfl
          have f26 : env4 26 = .bool false := hF4 26 (by decide) rfl
          have f27 : env4 27 = .bool false := hF4 27 (by decide) rfl
          have f28 : env4 28 = .bool false := hF4 28 (by decide) rfl
          have f29 : env4 29 = .int .u64 (joinF (joinF 5 6) 7) := hF4 29 (by decide) rfl
          have f30 : env4 30 = .int .u64 (joinF 5 6) := hF4 30 (by decide) rfl
          have f31 : env4 31 = .int .u64 (joinF (joinF 5 6) 7) := hF4 31 (by decide) rfl
          have f32 : env4 32 = .bool false := hF4 32 (by decide) rfl
          have f33 : env4 33 = .bool false := hF4 33 (by decide) rfl
          have f34 : env4 34 = .bool false := hF4 34 (by decide) rfl
          have f35 : env4 35 = .slice (some ⟨w.heap.size, 0, none⟩) 3 3 := hF4 35 (by decide) rfl
          have f36 : env4 36 = .slice (some ⟨w.heap.size, 0, none⟩) 1 3 := hF4 36 (by decide) rfl
          have f37 : env4 37 = .int .u64 5 := hF4 37 (by decide) rfl
          have f38 : env4 38 = .bool false := hF4 38 (by decide) rfl
          have f39 : env4 39 = .bool false := hF4 39 (by decide) rfl
          have f40 : env4 40 = .bool false := hF4 40 (by decide) rfl
          have f41 : env4 41 = .int .u64 (joinF 5 6) := hF4 41 (by decide) rfl
          have f42 : env4 42 = .int .u64 (joinF 5 6) := hF4 42 (by decide) rfl
          have f43 : env4 43 = .bool false := hF4 43 (by decide) rfl
          have f44 : env4 44 = .bool false := hF4 44 (by decide) rfl
          clear hF4
          simp only [List.take_succ_cons, List.take_nil, List.drop_nil, List.drop_succ_cons, putAll, Act.put, List.setIfInBounds_toArray, List.set_cons_succ, List.set_cons_zero, Nat.reduceAdd, f0, f1, f2, f3, f4, f5, f6, f7, f8, f9, f10, f11, f12, f13, f14, f15, f16, f18, f19, f20, f21, f22, f23, f25, f26, f27, f28, f29, f30, f31, f32, f33, f34, f35, f36, f37, f38, f39, f40, f41, f42, f43, f44]
          clear f0 f1 f2 f3 f4 f5 f6 f7 f8 f9 f10 f11 f12 f13 f14 f15 f16 f18 f19 f20 f21 f22 f23 f25 f26 f27 f28 f29 f30 f31 f32 f33 f34 f35 f36 f37 f38 f39 f40 f41 f42 f43 f44
          generalize env4 17 = e34 at *
          generalize env4 24 = e41 at *
          refine wpList_nil ?_
          have HL := Lib.hid (HL.out.later hB4)
          have HB2 := Lib.hid (HB2.out.later hB4)
          have HB3 := Lib.hid (HB3.out.later hB4)
          have HB4 := Lib.hid (HB4.out.later hB4)
          have HR2 := Lib.hid (HR2.out.later hB4)
          have HR3 := Lib.hid (HR3.out.later hB4)
          have HR4 := Lib.hid (HR4.out.later hB4)
          have HW := Lib.hid (HW.out.trans (hB4.mono HW.out.size))
          clear hB4 hSr4
          go_upto_region 7 with (fail)
          refine wp_region_text 29 [RKnown (.int .u64 (wordsF [])) [],
            RKnown (.int .u64 (wordsF [])) [],
            RKnown (.bool true) [(62, some 0), (63, some 1)],
            RKnown (.bool true) [(64, some 2)],
            RKnown (.int .u64 (joinF (joinF 5 6) 7)) [(6, none)],
            RKnown (.pointer (some ⟨b2, 0, none⟩)) [(2, none)],
            RKnown (.slice p2 1 c2) [(67, some 5)],
            RKnown (.agg #[.int .i64 3, .slice p2 1 c2]) [(68, some 6)],
            RKnown (.agg #[.int .i64 2, .int .u64 7]) [],
            RKnown (.int .i64 0) [(66, some 4), (69, some 7), (70, some 8)],
            RKnown (.bool true) [(71, some 9)],
            RKnown (.bool true) [(65, some 3), (72, some 10)],
            RKnown (.bool true) [(73, some 11)],
            RKnown (.int .u64 (joinF (joinF 5 6) 7)) [(6, none)],
            RKnown (.pointer (some ⟨b3, 0, none⟩)) [(3, none)],
            RKnown (.slice p3 2 c3) [(76, some 14)],
            RKnown (.agg #[.int .i64 3, .slice p3 2 c3]) [(77, some 15)],
            RKnown (.agg #[.int .i64 2, .int .u64 7]) [],
            RKnown (.int .i64 6) [(75, some 13), (78, some 16), (79, some 17)],
            RKnown (.bool true) [(80, some 18)],
            RKnown (.bool true) [(74, some 12), (81, some 19)],
            RKnown (.bool true) [(82, some 20)],
            RKnown (.int .u64 (joinF (joinF 5 6) 7)) [(6, none)],
            RKnown (.agg #[.int .i64 0, .slice none 0 0]) [],
            RKnown (.agg #[.int .i64 0, .int .u64 0]) [],
            RKnown (.int .i64 1) [(84, some 22), (85, some 23), (86, some 24)],
            RKnown (.bool true) [(87, some 25)],
            RKnown (.bool true) [(83, some 21), (88, some 26)],
            RKnown (.bool true) [(89, some 27)]] (by kernel_rfl) (by kernel_rfl) ?_ ?_
          · refine ⟨?_, ?_, ?_, ?_, ?_, ?_, ?_, ?_, ?_, ?_, ?_, ?_, ?_, ?_, ?_, ?_, ?_, ?_, ?_, ?_, ?_, ?_, ?_, ?_, ?_, ?_, ?_, ?_, ?_, trivial⟩
            · refine OpOk.grow rfl (GuardYes.none rfl) ?_
              intro ρ S w1 hc hB hS hI
              have hc1 := hc.const; have hc2 := hc.func
              clear hI; have HB := Lib.hid hB; have HS := Lib.hid hS; clear hB hS
              refine Upd.call (vs := #[.slice none 0 0]) rfl hc (by kernel_rfl) (by simp only [List.map_toArray, List.map_cons, List.map_nil, hc.const]) ?_
              refine (root_calls _ [] (fun _ => True) _ (by simp) (IsRow.nil _ _ _)).mono ?_
              rintro e w2 ⟨rfl, hb2⟩
              exact ⟨_, rfl, hb2, rfl⟩
            · refine OpOk.grow rfl (GuardYes.none rfl) ?_
              intro ρ S w1 hc hB hS hI
              have hc1 := hc.const; have hc2 := hc.func
              clear hI; have HB := Lib.hid hB; have HS := Lib.hid hS; clear hB hS
              refine Upd.call (vs := #[.slice none 0 0]) rfl hc (by kernel_rfl) (by simp only [List.map_toArray, List.map_cons, List.map_nil, hc.const]) ?_
              refine (words_calls _ [] (fun _ => True) _ (IsRow.nil _ _ _)).mono ?_
              rintro e w2 ⟨rfl, hb2⟩
              exact ⟨_, rfl, hb2, rfl⟩
            · refine OpOk.grow rfl (GuardYes.none rfl) ?_
              intro ρ S w1 hc hB hS hI
              have h62 : ρ (.tmp 62) = .int .u64 (wordsF []) := And.left hI
              have h63 : ρ (.tmp 63) = .int .u64 (wordsF []) := And.left (And.right hI)
              clear hI; have HB := Lib.hid hB; have HS := Lib.hid hS; clear hB hS
              refine Upd.hide fun R1 hR1 => ?_
              go_simp
              exact Upd.ok (hR1 _ _ ⟨Below.refl _ _, by first | rfl | simp⟩)
            · refine OpOk.grow rfl (GuardYes.none rfl) ?_
              intro ρ S w1 hc hB hS hI
              have h64 : ρ (.tmp 64) = .bool true := And.left hI
              clear hI; have HB := Lib.hid hB; have HS := Lib.hid hS; clear hB hS
              exact Upd.of (ex_move rfl) ⟨Below.refl _ _, h64⟩
            · refine OpOk.grow rfl (GuardYes.some rfl (fun _ _ _ h => h)) ?_
              intro ρ S w1 hc hB hS hI
              have h6 : ρ (.tmp 6) = .int .u64 (joinF (joinF 5 6) 7) := And.left hI
              clear hI; have HB := Lib.hid hB; have HS := Lib.hid hS; clear hB hS
              exact Upd.of (ex_move rfl) ⟨Below.refl _ _, h6⟩
            · refine OpOk.grow rfl (GuardYes.some rfl (fun _ _ _ h => h)) ?_
              intro ρ S w1 hc hB hS hI
              have h2 : ρ (.tmp 2) = .pointer (some ⟨b2, 0, none⟩) := And.left hI
              clear hI; have HB := Lib.hid hB; have HS := Lib.hid hS; clear hB hS
              refine Upd.hide fun R1 hR1 => ?_
              go_simp
              exact Upd.ok (hR1 _ _ ⟨Below.refl _ _, rfl⟩)
            · refine OpOk.grow rfl (GuardYes.some rfl (fun _ _ _ h => h)) ?_
              intro ρ S w1 hc hB hS hI
              have h67 : ρ (.tmp 67) = .pointer (some ⟨b2, 0, none⟩) := And.left hI
              clear hI; have HB := Lib.hid hB; have HS := Lib.hid hS; clear hB hS
              have hcl := (HB2.out.later HB.out).cell 0 (v := .slice p2 1 c2) rfl
              refine Upd.hide fun R1 hR1 => ?_
              go_simp
              exact Upd.ok (hR1 _ _ ⟨Below.refl _ _, rfl⟩)
            · refine OpOk.grow rfl (GuardYes.some rfl (fun _ _ _ h => h)) ?_
              intro ρ S w1 hc hB hS hI
              have h68 : ρ (.tmp 68) = .slice p2 1 c2 := And.left hI
              have hc1 := hc.const; have hc2 := hc.func
              clear hI; have HB := Lib.hid hB; have HS := Lib.hid hS; clear hB hS
              refine Upd.hide fun R1 hR1 => ?_
              go_simp
              exact Upd.ok (hR1 _ _ ⟨Below.refl _ _, rfl⟩)
            · refine OpOk.grow rfl (GuardYes.some rfl (fun _ _ _ h => h)) ?_
              intro ρ S w1 hc hB hS hI
              have hc1 := hc.const; have hc2 := hc.func
              clear hI; have HB := Lib.hid hB; have HS := Lib.hid hS; clear hB hS
              refine Upd.hide fun R1 hR1 => ?_
              go_simp
              exact Upd.ok (hR1 _ _ ⟨Below.refl _ _, rfl⟩)
            · refine OpOk.grow rfl (GuardYes.some rfl (fun _ _ _ h => h)) ?_
              intro ρ S w1 hc hB hS hI
              have h66 : ρ (.tmp 66) = .int .u64 (joinF (joinF 5 6) 7) := And.left hI
              have h69 : ρ (.tmp 69) = .agg #[.int .i64 3, .slice p2 1 c2] := And.left (And.right hI)
              have h70 : ρ (.tmp 70) = .agg #[.int .i64 2, .int .u64 7] := And.left (And.right (And.right hI))
              have hc1 := hc.const; have hc2 := hc.func
              clear hI; have HB := Lib.hid hB; have HS := Lib.hid hS; clear hB hS
              refine Upd.call (vs := #[.int .u64 (joinF (joinF 5 6) 7), .agg #[.int .i64 3, .slice p2 1 c2], .agg #[.int .i64 2, .int .u64 7]]) rfl hc (by kernel_rfl) (by simp only [List.map_toArray, List.map_cons, List.map_nil, h66, h69, h70]) ?_
              refine (check_calls _ _ _ _ _ _ S _ (HR2.out.base HB.out HS.out)).mono ?_
              rintro e w2 ⟨rfl, hb2⟩
              exact ⟨_, rfl, hb2, congrArg (Value.int .i64) ex_check1⟩
            · refine OpOk.grow rfl (GuardYes.some rfl (fun _ _ _ h => h)) ?_
              intro ρ S w1 hc hB hS hI
              have h71 : ρ (.tmp 71) = .int .i64 0 := And.left hI
              have hc1 := hc.const; have hc2 := hc.func
              clear hI; have HB := Lib.hid hB; have HS := Lib.hid hS; clear hB hS
              refine Upd.hide fun R1 hR1 => ?_
              go_simp
              exact Upd.ok (hR1 _ _ ⟨Below.refl _ _, by first | rfl | simp⟩)
            · refine OpOk.grow rfl (GuardYes.none rfl) ?_
              intro ρ S w1 hc hB hS hI
              have h65 : ρ (.tmp 65) = .bool true := And.left hI
              have h72 : ρ (.tmp 72) = .bool true := And.left (And.right hI)
              have hc1 := hc.const; have hc2 := hc.func
              clear hI; have HB := Lib.hid hB; have HS := Lib.hid hS; clear hB hS
              exact Upd.of (ex_pick rfl h65) ⟨Below.refl _ _, h72⟩
            · refine OpOk.grow rfl (GuardYes.none rfl) ?_
              intro ρ S w1 hc hB hS hI
              have h73 : ρ (.tmp 73) = .bool true := And.left hI
              clear hI; have HB := Lib.hid hB; have HS := Lib.hid hS; clear hB hS
              exact Upd.of (ex_move rfl) ⟨Below.refl _ _, h73⟩
            · refine OpOk.grow rfl (GuardYes.some rfl (fun _ _ _ h => h)) ?_
              intro ρ S w1 hc hB hS hI
              have h6 : ρ (.tmp 6) = .int .u64 (joinF (joinF 5 6) 7) := And.left hI
              clear hI; have HB := Lib.hid hB; have HS := Lib.hid hS; clear hB hS
              exact Upd.of (ex_move rfl) ⟨Below.refl _ _, h6⟩
            · refine OpOk.grow rfl (GuardYes.some rfl (fun _ _ _ h => h)) ?_
              intro ρ S w1 hc hB hS hI
              have h3 : ρ (.tmp 3) = .pointer (some ⟨b3, 0, none⟩) := And.left hI
              clear hI; have HB := Lib.hid hB; have HS := Lib.hid hS; clear hB hS
              refine Upd.hide fun R1 hR1 => ?_
              go_simp
              exact Upd.ok (hR1 _ _ ⟨Below.refl _ _, rfl⟩)
            · refine OpOk.grow rfl (GuardYes.some rfl (fun _ _ _ h => h)) ?_
              intro ρ S w1 hc hB hS hI
              have h76 : ρ (.tmp 76) = .pointer (some ⟨b3, 0, none⟩) := And.left hI
              clear hI; have HB := Lib.hid hB; have HS := Lib.hid hS; clear hB hS
              have hcl := (HB3.out.later HB.out).cell 0 (v := .slice p3 2 c3) rfl
              refine Upd.hide fun R1 hR1 => ?_
              go_simp
              exact Upd.ok (hR1 _ _ ⟨Below.refl _ _, rfl⟩)
            · refine OpOk.grow rfl (GuardYes.some rfl (fun _ _ _ h => h)) ?_
              intro ρ S w1 hc hB hS hI
              have h77 : ρ (.tmp 77) = .slice p3 2 c3 := And.left hI
              have hc1 := hc.const; have hc2 := hc.func
              clear hI; have HB := Lib.hid hB; have HS := Lib.hid hS; clear hB hS
              refine Upd.hide fun R1 hR1 => ?_
              go_simp
              exact Upd.ok (hR1 _ _ ⟨Below.refl _ _, rfl⟩)
            · refine OpOk.grow rfl (GuardYes.some rfl (fun _ _ _ h => h)) ?_
              intro ρ S w1 hc hB hS hI
              have hc1 := hc.const; have hc2 := hc.func
              clear hI; have HB := Lib.hid hB; have HS := Lib.hid hS; clear hB hS
              refine Upd.hide fun R1 hR1 => ?_
              go_simp
              exact Upd.ok (hR1 _ _ ⟨Below.refl _ _, rfl⟩)
            · refine OpOk.grow rfl (GuardYes.some rfl (fun _ _ _ h => h)) ?_
              intro ρ S w1 hc hB hS hI
              have h75 : ρ (.tmp 75) = .int .u64 (joinF (joinF 5 6) 7) := And.left hI
              have h78 : ρ (.tmp 78) = .agg #[.int .i64 3, .slice p3 2 c3] := And.left (And.right hI)
              have h79 : ρ (.tmp 79) = .agg #[.int .i64 2, .int .u64 7] := And.left (And.right (And.right hI))
              have hc1 := hc.const; have hc2 := hc.func
              clear hI; have HB := Lib.hid hB; have HS := Lib.hid hS; clear hB hS
              refine Upd.call (vs := #[.int .u64 (joinF (joinF 5 6) 7), .agg #[.int .i64 3, .slice p3 2 c3], .agg #[.int .i64 2, .int .u64 7]]) rfl hc (by kernel_rfl) (by simp only [List.map_toArray, List.map_cons, List.map_nil, h75, h78, h79]) ?_
              refine (check_calls _ _ _ _ _ _ S _ (HR3.out.base HB.out HS.out)).mono ?_
              rintro e w2 ⟨rfl, hb2⟩
              exact ⟨_, rfl, hb2, congrArg (Value.int .i64) ex_check2⟩
            · refine OpOk.grow rfl (GuardYes.some rfl (fun _ _ _ h => h)) ?_
              intro ρ S w1 hc hB hS hI
              have h80 : ρ (.tmp 80) = .int .i64 6 := And.left hI
              have hc1 := hc.const; have hc2 := hc.func
              clear hI; have HB := Lib.hid hB; have HS := Lib.hid hS; clear hB hS
              refine Upd.hide fun R1 hR1 => ?_
              go_simp
              exact Upd.ok (hR1 _ _ ⟨Below.refl _ _, by first | rfl | simp⟩)
            · refine OpOk.grow rfl (GuardYes.none rfl) ?_
              intro ρ S w1 hc hB hS hI
              have h74 : ρ (.tmp 74) = .bool true := And.left hI
              have h81 : ρ (.tmp 81) = .bool true := And.left (And.right hI)
              have hc1 := hc.const; have hc2 := hc.func
              clear hI; have HB := Lib.hid hB; have HS := Lib.hid hS; clear hB hS
              exact Upd.of (ex_pick rfl h74) ⟨Below.refl _ _, h81⟩
            · refine OpOk.grow rfl (GuardYes.none rfl) ?_
              intro ρ S w1 hc hB hS hI
              have h82 : ρ (.tmp 82) = .bool true := And.left hI
              clear hI; have HB := Lib.hid hB; have HS := Lib.hid hS; clear hB hS
              exact Upd.of (ex_move rfl) ⟨Below.refl _ _, h82⟩
            · refine OpOk.grow rfl (GuardYes.some rfl (fun _ _ _ h => h)) ?_
              intro ρ S w1 hc hB hS hI
              have h6 : ρ (.tmp 6) = .int .u64 (joinF (joinF 5 6) 7) := And.left hI
              clear hI; have HB := Lib.hid hB; have HS := Lib.hid hS; clear hB hS
              exact Upd.of (ex_move rfl) ⟨Below.refl _ _, h6⟩
            · refine OpOk.grow rfl (GuardYes.some rfl (fun _ _ _ h => h)) ?_
              intro ρ S w1 hc hB hS hI
              have hc1 := hc.const; have hc2 := hc.func
              clear hI; have HB := Lib.hid hB; have HS := Lib.hid hS; clear hB hS
              refine Upd.hide fun R1 hR1 => ?_
              go_simp
              exact Upd.ok (hR1 _ _ ⟨Below.refl _ _, rfl⟩)
            · refine OpOk.grow rfl (GuardYes.some rfl (fun _ _ _ h => h)) ?_
              intro ρ S w1 hc hB hS hI
              clear hI; have HB := Lib.hid hB; have HS := Lib.hid hS; clear hB hS
              refine Upd.hide fun R1 hR1 => ?_
              go_simp
              exact Upd.ok (hR1 _ _ ⟨Below.refl _ _, rfl⟩)
            · refine OpOk.grow rfl (GuardYes.some rfl (fun _ _ _ h => h)) ?_
              intro ρ S w1 hc hB hS hI
              have h84 : ρ (.tmp 84) = .int .u64 (joinF (joinF 5 6) 7) := And.left hI
              have h85 : ρ (.tmp 85) = .agg #[.int .i64 0, .slice none 0 0] := And.left (And.right hI)
              have h86 : ρ (.tmp 86) = .agg #[.int .i64 0, .int .u64 0] := And.left (And.right (And.right hI))
              have hc1 := hc.const; have hc2 := hc.func
              clear hI; have HB := Lib.hid hB; have HS := Lib.hid hS; clear hB hS
              refine Upd.call (vs := #[.int .u64 (joinF (joinF 5 6) 7), .agg #[.int .i64 0, .slice none 0 0], .agg #[.int .i64 0, .int .u64 0]]) rfl hc (by kernel_rfl) (by simp only [List.map_toArray, List.map_cons, List.map_nil, h84, h85, h86]) ?_
              refine (check_calls _ _ _ _ _ [] S _ (IsRow.nil _ _ _)).mono ?_
              rintro e w2 ⟨rfl, hb2⟩
              exact ⟨_, rfl, hb2, congrArg (Value.int .i64) ex_check3⟩
            · refine OpOk.grow rfl (GuardYes.some rfl (fun _ _ _ h => h)) ?_
              intro ρ S w1 hc hB hS hI
              have h87 : ρ (.tmp 87) = .int .i64 1 := And.left hI
              have hc1 := hc.const; have hc2 := hc.func
              clear hI; have HB := Lib.hid hB; have HS := Lib.hid hS; clear hB hS
              refine Upd.hide fun R1 hR1 => ?_
              go_simp
              exact Upd.ok (hR1 _ _ ⟨Below.refl _ _, by first | rfl | simp⟩)
            · refine OpOk.grow rfl (GuardYes.none rfl) ?_
              intro ρ S w1 hc hB hS hI
              have h83 : ρ (.tmp 83) = .bool true := And.left hI
              have h88 : ρ (.tmp 88) = .bool true := And.left (And.right hI)
              have hc1 := hc.const; have hc2 := hc.func
              clear hI; have HB := Lib.hid hB; have HS := Lib.hid hS; clear hB hS
              exact Upd.of (ex_pick rfl h83) ⟨Below.refl _ _, h88⟩
            · refine OpOk.grow rfl (GuardYes.none rfl) ?_
              intro ρ S w1 hc hB hS hI
              have h89 : ρ (.tmp 89) = .bool true := And.left hI
              clear hI; have HB := Lib.hid hB; have HS := Lib.hid hS; clear hB hS
              exact Upd.of (ex_assign rfl) ⟨Below.refl _ _, h89⟩
          · intro env5 Sr5 wr5 hB5 hSr5 hF5
            have f0 : env5 0 = .int .u64 (wordsF []) := hF5 0 (by decide) rfl
            have f1 : env5 1 = .int .u64 (wordsF []) := hF5 1 (by decide) rfl
            have f2 : env5 2 = .bool true := hF5 2 (by decide) rfl
            have f3 : env5 3 = .bool true := hF5 3 (by decide) rfl
            have f4 : env5 4 = .int .u64 (joinF (joinF 5 6) 7) := hF5 4 (by decide) rfl
            have f5 : env5 5 = .pointer (some ⟨b2, 0, none⟩) := hF5 5 (by decide) rfl
            have f6 : env5 6 = .slice p2 1 c2 := hF5 6 (by decide) rfl
            have f7 : env5 7 = .agg #[.int .i64 3, .slice p2 1 c2] := hF5 7 (by decide) rfl
            have f8 : env5 8 = .agg #[.int .i64 2, .int .u64 7] := hF5 8 (by decide) rfl
            have f9 : env5 9 = .int .i64 0 := hF5 9 (by decide) rfl
            have f10 : env5 10 = .bool true := hF5 10 (by decide) rfl
            have f11 : env5 11 = .bool true := hF5 11 (by decide) rfl
            have f12 : env5 12 = .bool true := hF5 12 (by decide) rfl
            have f13 : env5 13 = .int .u64 (joinF (joinF 5 6) 7) := hF5 13 (by decide) rfl
            have f14 : env5 14 = .pointer (some ⟨b3, 0, none⟩) := hF5 14 (by decide) rfl
            have f15 : env5 15 = .slice p3 2 c3 := hF5 15 (by decide) rfl
            have f16 : env5 16 = .agg #[.int .i64 3, .slice p3 2 c3] := hF5 16 (by decide) rfl
            have f17 : env5 17 = .agg #[.int .i64 2, .int .u64 7] := hF5 17 (by decide) rfl
            have f18 : env5 18 = .int .i64 6 := hF5 18 (by decide) rfl
            have f19 : env5 19 = .bool true := hF5 19 (by decide) rfl
            have f20 : env5 20 = .bool true := hF5 20 (by decide) rfl
            have f21 : env5 21 = .bool true := hF5 21 (by decide) rfl
            have f22 : env5 22 = .int .u64 (joinF (joinF 5 6) 7) := hF5 22 (by decide) rfl
            have f23 : env5 23 = .agg #[.int .i64 0, .slice none 0 0] := hF5 23 (by decide) rfl
            have f24 : env5 24 = .agg #[.int .i64 0, .int .u64 0] := hF5 24 (by decide) rfl
            have f25 : env5 25 = .int .i64 1 := hF5 25 (by decide) rfl
            have f26 : env5 26 = .bool true := hF5 26 (by decide) rfl
            have f27 : env5 27 = .bool true := hF5 27 (by decide) rfl
            have f28 : env5 28 = .bool true := hF5 28 (by decide) rfl
            clear hF5
            simp only [List.take_succ_cons, List.take_nil, List.drop_nil, List.drop_succ_cons, putAll, Act.put, List.setIfInBounds_toArray, List.set_cons_succ, List.set_cons_zero, Nat.reduceAdd, f0, f1, f2, f3, f4, f5, f6, f7, f8, f9, f10, f11, f12, f13, f14, f15, f16, f17, f18, f19, f20, f21, f22, f23, f24, f25, f26, f27, f28]
            clear f0 f1 f2 f3 f4 f5 f6 f7 f8 f9 f10 f11 f12 f13 f14 f15 f16 f17 f18 f19 f20 f21 f22 f23 f24 f25 f26 f27 f28
            refine wpList_nil ?_
            have HW := Lib.hid (HW.out.trans (hB5.mono HW.out.size))
            clear hB5 hSr5
            go_wp2
            go_ret
            exact ⟨rfl, HW.out⟩

end Go.Proofs.Ytjmfaebimgnblaa
