/-
  DigestBinds answers true.
-/
import Derived.Test.YtjmfaebimgnblaaEx01
import Derived.Test.YtjmfaebimgnblaaSides
import Derived.Deep.Cut
namespace Go.Proofs.Ytjmfaebimgnblaa
open Go.RowKit

set_option maxRecDepth 100000 in
set_option maxHeartbeats 4000000 in
theorem binds_calls (v : Value) (l : List Int) (k0 k1 : Nat) (y : Int) (S : Nat → Prop) (w : World) (h0 : k0 ≤ 65535) (h1 : k1 ≤ 65535) (hlin : ∀ x ∈ l, In64 x) (hyin : In64 y) (hl : IsInts .u64 S w v l) :
    Calls Try.prog 6 #[v, .agg #[.int .u16 (k0 : Int), .int .u16 (k1 : Int)], .int .u64 y] w fun e w' => e = .returned (.bool true) ∧ Below w.heap.size w w' := by
  have HL := Lib.hid hl
  obtain ⟨p, c, rfl, hlc, hcm, hp, _⟩ := hl
  clear hp
  have hcm0 : c ≤ 9223372036854775807 := hcm
  clear hcm
  go_enter Try.func6, Try.ntmps6
  go_wp2_with fail
  have HK : Hid (Box (w.alloc (.cells #[.int .u16 (k0 : Int), .int .u16 (k1 : Int)] 24)) w.heap.size 24 #[.int .u16 (k0 : Int), .int .u16 (k1 : Int)]) := Box.new _ _ _
  have HW : Hid (Below w.heap.size w (w.alloc (.cells #[.int .u16 (k0 : Int), .int .u16 (k1 : Int)] 24))) := (Below.refl _ w).alloc (Nat.le_refl _) _
  have HL2 := Lib.hid (HL.out.later HW.out)
  clear HL
  generalize w.alloc (.cells #[.int .u16 (k0 : Int), .int .u16 (k1 : Int)] 24) = w0 at *
  refine (examples01_calls _).mono ?_
  rintro e w1 ⟨rfl, hb⟩
  have HK1 := Lib.hid (HK.out.later hb)
  have HW1 := Lib.hid (HW.out.trans (hb.mono HW.out.size))
  have HL3 := Lib.hid (HL2.out.later hb)
  clear hb HK HW HL2
  have hk0 := HK1.out.cell 0 (v := .int .u16 (k0 : Int)) rfl
  go_wp2_with fail
  obtain ⟨n, hn⟩ : ∃ n, n = 1 + k0 % 60 := ⟨_, rfl⟩
  rw [show (1 + (k0 : Int) % 60) = (n : Int) from by omega]
  have hn1 : 1 ≤ n := by omega
  have hn2 : n ≤ 300 := by omega
  clear hn hk0
  refine (Grown_calls _ l n _ _ (by omega) HL3.out).mono ?_
  rintro e w2 ⟨r, rfl, ho, hb⟩
  obtain ⟨d, hd⟩ : ∃ d, d = grownF l n := ⟨_, rfl⟩
  have hdl : d.length = n := by rw [hd, grownF_len]
  have hdi : ∀ x ∈ d, In64 x := by rw [hd]; exact grownF_in l n hlin
  have HDI := Lib.hid hdi
  rw [← hd] at ho
  have HD := Lib.hid ho.toRow
  obtain ⟨pr, cr, rfl, hcr, hcm, -⟩ := ho.toRow.shape
  have HK2 := Lib.hid (HK1.out.later hb)
  have HW2 := Lib.hid (HW1.out.trans (hb.mono HW1.out.size))
  have HL4 := Lib.hid (HL3.out.later hb)
  clear hb HK1 HW1 HL3 ho hd hdi
  have hcm : cr ≤ 9223372036854775807 := hcm
  rw [hdl] at HD hcr ⊢
  have HDL := Lib.hid hdl
  clear hdl
  have e1 : ((n : Int) == 0) = false := beq_eq_false_iff_ne.2 (by omega)
  have hk1 := HK2.out.cell 1 (v := .int .u16 (k1 : Int)) rfl
  go_wp2_with fail
  obtain ⟨i, hi⟩ : ∃ i, i = k1 % n := ⟨_, rfl⟩
  rw [show ((k1 : Int) % (n : Int)) = (i : Int) from by rw [hi]; omega]
  have hin : i < n := by rw [hi]; exact Nat.mod_lt _ (by omega)
  clear hi hk1 e1 HK2
  refine (root_calls _ d _ _ (by rw [HDL.out]; omega) HD.out).mono ?_
  rintro e w3 ⟨rfl, hb⟩
  have HD3 := Lib.hid (HD.out.later hb)
  have HL5 := Lib.hid (HL4.out.later hb)
  have HW3 := Lib.hid (HW2.out.trans (hb.mono HW2.out.size))
  clear hb HD HW2 HL4
  go_wp2_with fail
  have hbp : badPath d (i : Int) = false := decide_eq_false (by rw [HDL.out]; omega)
  have hpl : pathList d (i : Int) = pathF d i := by unfold pathList; rw [hbp]; rfl
  have hpe : pathErr d (i : Int) = 0 := by unfold pathErr; rw [hbp]; rfl
  obtain ⟨x, hx⟩ : ∃ x, d[i]? = some x := ⟨_, List.getElem?_eq_getElem (by rw [HDL.out]; exact hin)⟩
  have HP0 : Hid (checkF (rootF d) (n : Int) (i : Int) x (pathF d i) = 0) := by have := check_path d i x hx (by rw [HDL.out]; omega); rw [HDL.out] at this; exact this
  have HOK : Hid (∀ (z : Int) (q : List Int), checkF (rootF d) (n : Int) (i : Int) z q = 0 → q.length = (pathF d i).length ∧ foldUp z q (sidesF n i) = rootF d) := by
    intro z q hq
    have := check_ok d i z q (by rw [HDL.out]; exact hin) (by rw [HDL.out]; omega)
    rw [HDL.out] at this
    exact this hq
  have hq9 := pathF_bits 9 d i (by rw [HDL.out]; omega)
  refine (pathsV_calls _ d _ _ (fun _ => True) _ (by rw [HDL.out]; omega) HD3.out).mono ?_
  rw [hpl, hpe]
  clear hbp hpl hpe
  have HSL : Hid ((sidesF n i).length = (pathF d i).length) := by have := sides_len _ d i rfl (by rw [HDL.out]; exact hin); rwa [HDL.out] at this
  generalize pathF d i = q at *
  rintro e w4 ⟨r, rfl, ⟨pp, cp, rfl, hr⟩, hb⟩
  have HR := Lib.hid hr
  have HD4 := Lib.hid (HD3.out.later hb)
  have HL6 := Lib.hid (HL5.out.later hb)
  have HW4 := Lib.hid (HW3.out.trans (hb.mono HW3.out.size))
  clear hb HD3 HW3 hr HL5
  go_upto_region 7 with (fail)
  have HX0 : Hid (Box (w4.alloc (.cells #[.slice pp q.length cp, .int .i64 0] 29)) w4.heap.size 29 #[.slice pp q.length cp, .int .i64 0]) := Box.new _ _ _
  have HA : Hid (Below w4.heap.size w4 (w4.alloc (.cells #[.slice pp q.length cp, .int .i64 0] 29))) := (Below.refl _ w4).alloc (Nat.le_refl _) _
  have HW := Lib.hid (HW4.out.trans (HA.out.mono HW4.out.size))
  have HD := Lib.hid (HD4.out.later HA.out)
  have HL := Lib.hid (HL6.out.later HA.out)
  have HP := Lib.hid (HR.out.later HA.out)
  have HX := HX0
  clear HW4 HD4 HR HA HL6 HX0
  generalize w4.alloc (.cells #[.slice pp q.length cp, .int .i64 0] 29) = w5 at *
  generalize w4.heap.size = bx at *
  obtain ⟨bd, od, rfl, -, hbd, hcd⟩ := HD.out.cellAt hx
  have HBD := Lib.hid hbd
  have HCD := Lib.hid hcd
  have HXX := Lib.hid hx
  clear hx hbd hcd
  obtain ⟨mm, hmm⟩ : ∃ mm, mm = min l.length q.length := ⟨_, rfl⟩
  have hif : (if q.length < l.length then (q.length : Int) else (l.length : Int)) = (mm : Int) := by split <;> omega
  have hm1 : mm ≤ l.length := by omega
  have hm2 : mm ≤ q.length := by omega
  have HLP := Lib.hid (HL.out.hi mm hm1)
  have HPLL : Hid ((l.take mm).length = mm) := by show _ = _; rw [List.length_take]; omega
  clear hmm
  have hcl := HX.out.cell 0 (v := .slice pp q.length cp) rfl
  go_upto_region 8 with (fail)
  generalize l.take mm = pl at *
  clear hif hcl HL
  obtain ⟨c0, hc0⟩ : ∃ c0, c0 = checkF (rootF d) (n : Int) (i : Int) y pl := ⟨_, rfl⟩
  have HC0 : Hid (checkF (rootF d) (n : Int) (i : Int) y pl = c0) := hc0.symm
  clear hc0
  refine wp_region_text 15 [RKnown (.pointer (some ⟨bx, 1, none⟩)) [(11, none)],
    RKnown (.int .i64 0) [(49, some 0)],
    RKnown (.bool false) [(50, some 1)],
    RKnown (.bool false) [(51, some 2)],
    RKnown (.int .u64 (rootF d)) [(10, none)],
    RKnown (.slice (some ⟨bd, od, none⟩) n cr) [(8, none)],
    RKnown (.int .i64 (n : Nat)) [(54, some 5)],
    RKnown (.slice p mm c) [(12, none)],
    RKnown (.agg #[.int .i64 (n : Int), .slice p mm c]) [(55, some 6), (56, some 7)],
    RKnown (.int .i64 (i : Int)) [(9, none)],
    RKnown (.int .u64 y) [(2, none)],
    RKnown (.agg #[.int .i64 (i : Int), .int .u64 y]) [(58, some 9), (59, some 10)],
    RKnown (.int .i64 c0) [(53, some 4), (57, some 8), (60, some 11)],
    RKnown (.bool (c0 != 0)) [(61, some 12)],
    RKnown (.bool (c0 != 0)) [(52, some 3), (62, some 13)]] (by kernel_rfl) (by kernel_rfl) ?_ ?_
  · refine ⟨?_, ?_, ?_, ?_, ?_, ?_, ?_, ?_, ?_, ?_, ?_, ?_, ?_, ?_, ?_, trivial⟩
    · refine OpOk.grow rfl (GuardYes.none rfl) ?_
      intro ρ S w1 hc hB hS hI
      have h11 : ρ (.tmp 11) = .pointer (some ⟨bx, 0, none⟩) := And.left hI
      clear hI; have HB := Lib.hid hB; have HS := Lib.hid hS; clear hB hS
      refine Upd.hide fun R1 hR1 => ?_
      go_simp
      exact Upd.ok (hR1 _ _ ⟨Below.refl _ _, rfl⟩)
    · refine OpOk.grow rfl (GuardYes.none rfl) ?_
      intro ρ S w1 hc hB hS hI
      have h49 : ρ (.tmp 49) = .pointer (some ⟨bx, 1, none⟩) := And.left hI
      clear hI; have HB := Lib.hid hB; have HS := Lib.hid hS; clear hB hS
      have hcl := (HX.out.later HB.out).cell 1 (v := .int .i64 0) rfl
      refine Upd.hide fun R1 hR1 => ?_
      go_simp
      exact Upd.ok (hR1 _ _ ⟨Below.refl _ _, rfl⟩)
    · refine OpOk.grow rfl (GuardYes.none rfl) ?_
      intro ρ S w1 hc hB hS hI
      have h50 : ρ (.tmp 50) = .int .i64 0 := And.left hI
      have hc1 := hc.const; have hc2 := hc.func
      clear hI; have HB := Lib.hid hB; have HS := Lib.hid hS; clear hB hS
      refine Upd.hide fun R1 hR1 => ?_
      go_simp
      exact Upd.ok (hR1 _ _ ⟨Below.refl _ _, by first | rfl | simp⟩)
    · refine OpOk.grow rfl (GuardYes.none rfl) ?_
      intro ρ S w1 hc hB hS hI
      have h51 : ρ (.tmp 51) = .bool false := And.left hI
      clear hI; have HB := Lib.hid hB; have HS := Lib.hid hS; clear hB hS
      exact Upd.of (ex_move rfl) ⟨Below.refl _ _, h51⟩
    · refine OpOk.grow rfl (GuardYes.some rfl (fun _ _ _ h => h)) ?_
      intro ρ S w1 hc hB hS hI
      have h10 : ρ (.tmp 10) = .int .u64 (rootF d) := And.left hI
      clear hI; have HB := Lib.hid hB; have HS := Lib.hid hS; clear hB hS
      exact Upd.of (ex_move rfl) ⟨Below.refl _ _, h10⟩
    · refine OpOk.grow rfl (GuardYes.some rfl (fun _ _ _ h => h)) ?_
      intro ρ S w1 hc hB hS hI
      have h8 : ρ (.tmp 8) = .slice (some ⟨bd, od, none⟩) n cr := And.left hI
      clear hI; have HB := Lib.hid hB; have HS := Lib.hid hS; clear hB hS
      exact Upd.of (ex_move rfl) ⟨Below.refl _ _, h8⟩
    · refine OpOk.grow rfl (GuardYes.some rfl (fun _ _ _ h => h)) ?_
      intro ρ S w1 hc hB hS hI
      have h54 : ρ (.tmp 54) = .slice (some ⟨bd, od, none⟩) n cr := And.left hI
      clear hI; have HB := Lib.hid hB; have HS := Lib.hid hS; clear hB hS
      exact Upd.of (ex_len_slice rfl (by kernel_rfl) h54) ⟨Below.refl _ _, rfl⟩
    · refine OpOk.grow rfl (GuardYes.some rfl (fun _ _ _ h => h)) ?_
      intro ρ S w1 hc hB hS hI
      have h12 : ρ (.tmp 12) = .slice p mm c := And.left hI
      clear hI; have HB := Lib.hid hB; have HS := Lib.hid hS; clear hB hS
      exact Upd.of (ex_move rfl) ⟨Below.refl _ _, h12⟩
    · refine OpOk.grow rfl (GuardYes.some rfl (fun _ _ _ h => h)) ?_
      intro ρ S w1 hc hB hS hI
      have h55 : ρ (.tmp 55) = .int .i64 (n : Nat) := And.left hI
      have h56 : ρ (.tmp 56) = .slice p mm c := And.left (And.right hI)
      clear hI; have HB := Lib.hid hB; have HS := Lib.hid hS; clear hB hS
      refine Upd.hide fun R1 hR1 => ?_
      go_simp
      exact Upd.ok (hR1 _ _ ⟨Below.refl _ _, rfl⟩)
    · refine OpOk.grow rfl (GuardYes.some rfl (fun _ _ _ h => h)) ?_
      intro ρ S w1 hc hB hS hI
      have h9 : ρ (.tmp 9) = .int .i64 (i : Int) := And.left hI
      clear hI; have HB := Lib.hid hB; have HS := Lib.hid hS; clear hB hS
      exact Upd.of (ex_move rfl) ⟨Below.refl _ _, h9⟩
    · refine OpOk.grow rfl (GuardYes.some rfl (fun _ _ _ h => h)) ?_
      intro ρ S w1 hc hB hS hI
      have h2 : ρ (.tmp 2) = .int .u64 y := And.left hI
      clear hI; have HB := Lib.hid hB; have HS := Lib.hid hS; clear hB hS
      exact Upd.of (ex_move rfl) ⟨Below.refl _ _, h2⟩
    · refine OpOk.grow rfl (GuardYes.some rfl (fun _ _ _ h => h)) ?_
      intro ρ S w1 hc hB hS hI
      have h58 : ρ (.tmp 58) = .int .i64 (i : Int) := And.left hI
      have h59 : ρ (.tmp 59) = .int .u64 y := And.left (And.right hI)
      clear hI; have HB := Lib.hid hB; have HS := Lib.hid hS; clear hB hS
      refine Upd.hide fun R1 hR1 => ?_
      go_simp
      exact Upd.ok (hR1 _ _ ⟨Below.refl _ _, rfl⟩)
    · refine OpOk.grow rfl (GuardYes.some rfl (fun _ _ _ h => h)) ?_
      intro ρ S w1 hc hB hS hI
      have h53 : ρ (.tmp 53) = .int .u64 (rootF d) := And.left hI
      have h57 : ρ (.tmp 57) = .agg #[.int .i64 (n : Int), .slice p mm c] := And.left (And.right hI)
      have h60 : ρ (.tmp 60) = .agg #[.int .i64 (i : Int), .int .u64 y] := And.left (And.right (And.right hI))
      have hc1 := hc.const; have hc2 := hc.func
      clear hI; have HB := Lib.hid hB; have HS := Lib.hid hS; clear hB hS
      refine Upd.call (vs := #[.int .u64 (rootF d), .agg #[.int .i64 (n : Int), .slice p mm c], .agg #[.int .i64 (i : Int), .int .u64 y]]) rfl hc (by kernel_rfl) (by simp only [List.map_toArray, List.map_cons, List.map_nil, h53, h57, h60]) ?_
      refine (check_calls _ _ _ _ _ _ S _ (HLP.out.base HB.out HS.out)).mono ?_
      rintro e w2 ⟨rfl, hb2⟩
      exact ⟨_, rfl, hb2, congrArg (Value.int .i64) HC0.out⟩
    · refine OpOk.grow rfl (GuardYes.some rfl (fun _ _ _ h => h)) ?_
      intro ρ S w1 hc hB hS hI
      have h61 : ρ (.tmp 61) = .int .i64 c0 := And.left hI
      have hc1 := hc.const; have hc2 := hc.func
      clear hI; have HB := Lib.hid hB; have HS := Lib.hid hS; clear hB hS
      refine Upd.hide fun R1 hR1 => ?_
      go_simp
      exact Upd.ok (hR1 _ _ ⟨Below.refl _ _, rfl⟩)
    · refine OpOk.grow rfl (GuardYes.none rfl) ?_
      intro ρ S w1 hc hB hS hI
      have h52 : ρ (.tmp 52) = .bool false := And.left hI
      have h62 : ρ (.tmp 62) = .bool (c0 != 0) := And.left (And.right hI)
      have hc1 := hc.const; have hc2 := hc.func
      clear hI; have HB := Lib.hid hB; have HS := Lib.hid hS; clear hB hS
      exact Upd.of (ex_pick rfl h52) ⟨Below.refl _ _, h62⟩
  · intro env1 Sr1 wr1 hB1 hSr1 hF1
    have f0 : env1 0 = .pointer (some ⟨bx, 1, none⟩) := hF1 0 (by decide) rfl
    have f1 : env1 1 = .int .i64 0 := hF1 1 (by decide) rfl
    have f2 : env1 2 = .bool false := hF1 2 (by decide) rfl
    have f3 : env1 3 = .bool false := hF1 3 (by decide) rfl
    have f4 : env1 4 = .int .u64 (rootF d) := hF1 4 (by decide) rfl
    have f5 : env1 5 = .slice (some ⟨bd, od, none⟩) n cr := hF1 5 (by decide) rfl
    have f6 : env1 6 = .int .i64 (n : Nat) := hF1 6 (by decide) rfl
    have f7 : env1 7 = .slice p mm c := hF1 7 (by decide) rfl
    have f8 : env1 8 = .agg #[.int .i64 (n : Int), .slice p mm c] := hF1 8 (by decide) rfl
    have f9 : env1 9 = .int .i64 (i : Int) := hF1 9 (by decide) rfl
    have f10 : env1 10 = .int .u64 y := hF1 10 (by decide) rfl
    have f11 : env1 11 = .agg #[.int .i64 (i : Int), .int .u64 y] := hF1 11 (by decide) rfl
    have f12 : env1 12 = .int .i64 c0 := hF1 12 (by decide) rfl
    have f13 : env1 13 = .bool (c0 != 0) := hF1 13 (by decide) rfl
    have f14 : env1 14 = .bool (c0 != 0) := hF1 14 (by decide) rfl
    clear hF1
    simp only [List.take_succ_cons, List.take_nil, List.drop_nil, List.drop_succ_cons, putAll, Act.put, List.setIfInBounds_toArray, List.set_cons_succ, List.set_cons_zero, Nat.reduceAdd, f0, f1, f2, f3, f4, f5, f6, f7, f8, f9, f10, f11, f12, f13, f14]
    clear f0 f1 f2 f3 f4 f5 f6 f7 f8 f9 f10 f11 f12 f13 f14
    refine wpList_nil ?_
    have HCD := Lib.hid (((hB1).cell (p := ⟨bd, od + i, none⟩) HBD.out).trans HCD.out)
    have HBD := Lib.hid (Nat.lt_of_lt_of_le HBD.out hB1.size)
    have HD := Lib.hid (HD.out.later hB1)
    have HLP := Lib.hid (HLP.out.later hB1)
    have HP := Lib.hid (HP.out.later hB1)
    have HX := Lib.hid (HX.out.later hB1)
    have HW := Lib.hid (HW.out.trans (hB1.mono HW.out.size))
    clear hB1 hSr1
    have hcl0 := HX.out.cell 0 (v := .slice pp q.length cp) rfl
    have hcl1 := HX.out.cell 1 (v := .int .i64 0) rfl
    by_cases hc : c0 = 0
    · have e5 : (c0 != 0) = false := by rw [hc]; rfl
      have hok := HOK.out y pl (HC0.out.trans hc)
      have hok0 := HOK.out x q HP0.out
      have hmq : mm = q.length := HPLL.out.symm.trans hok.1
      subst hmq
      clear hm1 hm2
      have HOKY := Lib.hid hok.2
      have HOKX := Lib.hid hok0.2
      clear hok hok0 hc HOK HP0 HC0
      go_wp2_with fail
      refine (Sides_calls n i _ (by omega) hin).mono ?_

      rintro e w6 ⟨r, rfl, ho, hb⟩
      obtain ⟨ps, cs, rfl, -, hcms, -⟩ := ho.toRow.shape
      have HSR : Hid (IsRow Value.bool (fun _ => True) w6 (.slice ps (sidesF n i).length cs) (sidesF n i)) := ho.toRow.wk (fun _ _ => trivial)
      have HCD := Lib.hid ((hb.cell (p := ⟨bd, od + i, none⟩) HBD.out).trans HCD.out)
      have HD := Lib.hid (HD.out.later hb)
      have HLP := Lib.hid (HLP.out.later hb)
      have HP := Lib.hid (HP.out.later hb)
      have HX := Lib.hid (HX.out.later hb)
      have HW := Lib.hid (HW.out.trans (hb.mono HW.out.size))
      clear hb ho HBD hcl0 hcl1 e5
      generalize sidesF n i = s at *
      rw [HSL.out] at HSR ⊢
      have hcl := HX.out.cell 0 (v := .slice pp q.length cp) rfl
      have hcd := HCD.out
      have hi0 : (0 : Int) ≤ (i : Int) := by omega
      have hi1 : (i : Int) < (n : Int) := by omega
      go_wp2_with fail
      clear hcl hcd hi0 hi1
      go_loopw [14, 15, 16, 17] (fun vg vh ve vj wr => ∃ (j : Nat) (g h : Int) (e : Bool), vg = .int .u64 g ∧ vh = .int .u64 h ∧ ve = .bool e ∧ vj = .int .i64 (j : Int) ∧ j ≤ q.length ∧ g = foldUp x (q.take j) (s.take j) ∧ h = foldUp y (pl.take j) (s.take j) ∧ (e = false → g ≠ h) ∧ Below w6.heap.size w6 wr) (fun _ _ _ vj _ => q.length - (intOf vj).toNat)
      case atStart => exact ⟨0, x, y, x == y, rfl, rfl, rfl, rfl, Nat.zero_le _, rfl, rfl, fun h => by simpa using h, Below.refl _ _⟩
      case round =>
        obtain ⟨j, g, h, e, rfl, rfl, rfl, rfl, hjm, hg, hh, hne, hbw⟩ := hrel
        by_cases hj : j < q.length
        · have hj0 : (j : Int) < (q.length : Int) := by omega
          obtain ⟨a, ha⟩ : ∃ a, q[j]? = some a := ⟨_, List.getElem?_eq_getElem hj⟩
          obtain ⟨b, hb⟩ : ∃ b, pl[j]? = some b := ⟨_, List.getElem?_eq_getElem (by rw [HPLL.out]; exact hj)⟩
          obtain ⟨z, hz⟩ : ∃ z, s[j]? = some z := ⟨_, List.getElem?_eq_getElem (by rw [HSL.out]; exact hj)⟩
          have HG := Lib.hid (foldUp_take q s x j a z ha hz)
          have HH := Lib.hid (foldUp_take pl s y j b z hb hz)
          rw [← hg] at HG
          rw [← hh] at HH
          clear hg hh
          have HWR := Lib.hid hbw
          have HD := Lib.hid (HD.out.later hbw)
          have HLP := Lib.hid (HLP.out.later hbw)
          have HP := Lib.hid (HP.out.later hbw)
          have HSR := Lib.hid (HSR.out.later hbw)
          have HX := Lib.hid (HX.out.later hbw)
          have HNE := Lib.hid hne
          clear hne hbw
          obtain ⟨bq, oq, rfl, -, hbq, hcq⟩ := HP.out.cellAt ha
          obtain ⟨bp, op, rfl, -, hbp, hcp⟩ := HLP.out.cellAt hb
          obtain ⟨bs, os, rfl, -, hbs, hcs⟩ := HSR.out.cellAt hz
          have HBQ := Lib.hid hbq
          have HBP := Lib.hid hbp
          have HBS := Lib.hid hbs
          have HCQ := Lib.hid hcq
          have HCP := Lib.hid hcp
          have HCS := Lib.hid hcs
          clear hbq hbp hbs hcq hcp hcs ha hb hz
          go_upto_region 18 with (fail)
          refine wp_region_table 23 [RKnown (.int .u64 g) [(14, none)],
            RKnown (.pointer (some ⟨bx, 0, none⟩)) [(11, none)],
            RKnown (.slice (some ⟨bq, oq, none⟩) q.length cp) [(102, some 1)],
            RKnown (.int .i64 (j : Int)) [(17, none)],
            RKnown (.pointer (some ⟨bq, oq + j, none⟩)) [(103, some 2), (104, some 3)],
            RKnown (.int .u64 a) [(105, some 4)],
            RKnown (.slice (some ⟨bs, os, none⟩) q.length cs) [(13, none)],
            RKnown (.int .i64 (j : Int)) [(17, none)],
            RKnown (.pointer (some ⟨bs, os + j, none⟩)) [(107, some 6), (108, some 7)],
            RKnown (.bool z) [(109, some 8)],
            RKnown (.int .u64 (upF g a z)) [(101, some 0), (106, some 5), (110, some 9)],
            RKnown (.int .u64 h) [(15, none)],
            RKnown (.slice (some ⟨bp, op, none⟩) q.length c) [(12, none)],
            RKnown (.int .i64 (j : Int)) [(17, none)],
            RKnown (.pointer (some ⟨bp, op + j, none⟩)) [(113, some 12), (114, some 13)],
            RKnown (.int .u64 b) [(115, some 14)],
            RKnown (.slice (some ⟨bs, os, none⟩) q.length cs) [(13, none)],
            RKnown (.int .i64 (j : Int)) [(17, none)],
            RKnown (.pointer (some ⟨bs, os + j, none⟩)) [(117, some 16), (118, some 17)],
            RKnown (.bool z) [(119, some 18)],
            RKnown (.int .u64 (upF h b z)) [(112, some 11), (116, some 15), (120, some 19)],
            RKnown (.int .u64 (upF g a z)) [(111, some 10)],
            RKnown (.int .u64 (upF h b z)) [(121, some 20)]] (by kernel_rfl) (by kernel_rfl) (by kernel_rfl) ?_ ?_
          · refine ⟨?_, ?_, ?_, ?_, ?_, ?_, ?_, ?_, ?_, ?_, ?_, ?_, ?_, ?_, ?_, ?_, ?_, ?_, ?_, ?_, ?_, ?_, ?_, trivial⟩
            · refine OpOk.grow rfl (GuardYes.none rfl) ?_
              intro ρ S w1 hc hB hS hI
              have h14 : ρ (.tmp 14) = .int .u64 g := And.left hI
              clear hI; have HB := Lib.hid hB; have HS := Lib.hid hS; clear hB hS
              exact Upd.of (ex_move rfl) ⟨Below.refl _ _, h14⟩
            · refine OpOk.grow rfl (GuardYes.none rfl) ?_
              intro ρ S w1 hc hB hS hI
              have h11 : ρ (.tmp 11) = .pointer (some ⟨bx, 0, none⟩) := And.left hI
              clear hI; have HB := Lib.hid hB; have HS := Lib.hid hS; clear hB hS
              refine Upd.hide fun R1 hR1 => ?_
              go_simp
              exact Upd.ok (hR1 _ _ ⟨Below.refl _ _, rfl⟩)
            · refine OpOk.grow rfl (GuardYes.none rfl) ?_
              intro ρ S w1 hc hB hS hI
              have h102 : ρ (.tmp 102) = .pointer (some ⟨bx, 0, none⟩) := And.left hI
              clear hI; have HB := Lib.hid hB; have HS := Lib.hid hS; clear hB hS
              have hcl := (HX.out.later HB.out).cell 0 (v := .slice (some ⟨bq, oq, none⟩) q.length cp) rfl
              refine Upd.hide fun R1 hR1 => ?_
              go_simp
              exact Upd.ok (hR1 _ _ ⟨Below.refl _ _, rfl⟩)
            · refine OpOk.grow rfl (GuardYes.none rfl) ?_
              intro ρ S w1 hc hB hS hI
              have h17 : ρ (.tmp 17) = .int .i64 (j : Int) := And.left hI
              clear hI; have HB := Lib.hid hB; have HS := Lib.hid hS; clear hB hS
              exact Upd.of (ex_move rfl) ⟨Below.refl _ _, h17⟩
            · refine OpOk.grow rfl (GuardYes.none rfl) ?_
              intro ρ S w1 hc hB hS hI
              have h103 : ρ (.tmp 103) = .slice (some ⟨bq, oq, none⟩) q.length cp := And.left hI
              have h104 : ρ (.tmp 104) = .int .i64 (j : Int) := And.left (And.right hI)
              clear hI; have HB := Lib.hid hB; have HS := Lib.hid hS; clear hB hS
              refine Upd.hide fun R1 hR1 => ?_
              go_simp
              exact Upd.ok (hR1 _ _ ⟨Below.refl _ _, rfl⟩)
            · refine OpOk.grow rfl (GuardYes.none rfl) ?_
              intro ρ S w1 hc hB hS hI
              have h105 : ρ (.tmp 105) = .pointer (some ⟨bq, oq + j, none⟩) := And.left hI
              clear hI; have HB := Lib.hid hB; have HS := Lib.hid hS; clear hB hS
              have hcl : w1.cell? ⟨bq, oq + j, none⟩ = some (.int .u64 a) := ((HB.out).cell (p := ⟨bq, oq + j, none⟩) HBQ.out).trans HCQ.out
              refine Upd.hide fun R1 hR1 => ?_
              go_simp
              exact Upd.ok (hR1 _ _ ⟨Below.refl _ _, rfl⟩)
            · refine OpOk.grow rfl (GuardYes.none rfl) ?_
              intro ρ S w1 hc hB hS hI
              have h13 : ρ (.tmp 13) = .slice (some ⟨bs, os, none⟩) q.length cs := And.left hI
              clear hI; have HB := Lib.hid hB; have HS := Lib.hid hS; clear hB hS
              exact Upd.of (ex_move rfl) ⟨Below.refl _ _, h13⟩
            · refine OpOk.grow rfl (GuardYes.none rfl) ?_
              intro ρ S w1 hc hB hS hI
              have h17 : ρ (.tmp 17) = .int .i64 (j : Int) := And.left hI
              clear hI; have HB := Lib.hid hB; have HS := Lib.hid hS; clear hB hS
              exact Upd.of (ex_move rfl) ⟨Below.refl _ _, h17⟩
            · refine OpOk.grow rfl (GuardYes.none rfl) ?_
              intro ρ S w1 hc hB hS hI
              have h107 : ρ (.tmp 107) = .slice (some ⟨bs, os, none⟩) q.length cs := And.left hI
              have h108 : ρ (.tmp 108) = .int .i64 (j : Int) := And.left (And.right hI)
              clear hI; have HB := Lib.hid hB; have HS := Lib.hid hS; clear hB hS
              refine Upd.hide fun R1 hR1 => ?_
              go_simp
              exact Upd.ok (hR1 _ _ ⟨Below.refl _ _, rfl⟩)
            · refine OpOk.grow rfl (GuardYes.none rfl) ?_
              intro ρ S w1 hc hB hS hI
              have h109 : ρ (.tmp 109) = .pointer (some ⟨bs, os + j, none⟩) := And.left hI
              clear hI; have HB := Lib.hid hB; have HS := Lib.hid hS; clear hB hS
              have hcl : w1.cell? ⟨bs, os + j, none⟩ = some (.bool z) := ((HB.out).cell (p := ⟨bs, os + j, none⟩) HBS.out).trans HCS.out
              refine Upd.hide fun R1 hR1 => ?_
              go_simp
              exact Upd.ok (hR1 _ _ ⟨Below.refl _ _, rfl⟩)
            · refine OpOk.grow rfl (GuardYes.none rfl) ?_
              intro ρ S w1 hc hB hS hI
              have h101 : ρ (.tmp 101) = .int .u64 g := And.left hI
              have h106 : ρ (.tmp 106) = .int .u64 a := And.left (And.right hI)
              have h110 : ρ (.tmp 110) = .bool z := And.left (And.right (And.right hI))
              have hc1 := hc.const; have hc2 := hc.func
              clear hI; have HB := Lib.hid hB; have HS := Lib.hid hS; clear hB hS
              refine Upd.call (vs := #[.int .u64 g, .int .u64 a, .bool z]) rfl hc (by kernel_rfl) (by simp only [List.map_toArray, List.map_cons, List.map_nil, h101, h106, h110]) ?_
              refine (Up_calls _ _ _ _).mono ?_
              rintro e w2 ⟨rfl, rfl⟩
              exact ⟨_, rfl, Below.refl _ _, rfl⟩
            · refine OpOk.grow rfl (GuardYes.none rfl) ?_
              intro ρ S w1 hc hB hS hI
              have h15 : ρ (.tmp 15) = .int .u64 h := And.left hI
              clear hI; have HB := Lib.hid hB; have HS := Lib.hid hS; clear hB hS
              exact Upd.of (ex_move rfl) ⟨Below.refl _ _, h15⟩
            · refine OpOk.grow rfl (GuardYes.none rfl) ?_
              intro ρ S w1 hc hB hS hI
              have h12 : ρ (.tmp 12) = .slice (some ⟨bp, op, none⟩) q.length c := And.left hI
              clear hI; have HB := Lib.hid hB; have HS := Lib.hid hS; clear hB hS
              exact Upd.of (ex_move rfl) ⟨Below.refl _ _, h12⟩
            · refine OpOk.grow rfl (GuardYes.none rfl) ?_
              intro ρ S w1 hc hB hS hI
              have h17 : ρ (.tmp 17) = .int .i64 (j : Int) := And.left hI
              clear hI; have HB := Lib.hid hB; have HS := Lib.hid hS; clear hB hS
              exact Upd.of (ex_move rfl) ⟨Below.refl _ _, h17⟩
            · refine OpOk.grow rfl (GuardYes.none rfl) ?_
              intro ρ S w1 hc hB hS hI
              have h113 : ρ (.tmp 113) = .slice (some ⟨bp, op, none⟩) q.length c := And.left hI
              have h114 : ρ (.tmp 114) = .int .i64 (j : Int) := And.left (And.right hI)
              clear hI; have HB := Lib.hid hB; have HS := Lib.hid hS; clear hB hS
              refine Upd.hide fun R1 hR1 => ?_
              go_simp
              exact Upd.ok (hR1 _ _ ⟨Below.refl _ _, rfl⟩)
            · refine OpOk.grow rfl (GuardYes.none rfl) ?_
              intro ρ S w1 hc hB hS hI
              have h115 : ρ (.tmp 115) = .pointer (some ⟨bp, op + j, none⟩) := And.left hI
              clear hI; have HB := Lib.hid hB; have HS := Lib.hid hS; clear hB hS
              have hcl : w1.cell? ⟨bp, op + j, none⟩ = some (.int .u64 b) := ((HB.out).cell (p := ⟨bp, op + j, none⟩) HBP.out).trans HCP.out
              refine Upd.hide fun R1 hR1 => ?_
              go_simp
              exact Upd.ok (hR1 _ _ ⟨Below.refl _ _, rfl⟩)
            · refine OpOk.grow rfl (GuardYes.none rfl) ?_
              intro ρ S w1 hc hB hS hI
              have h13 : ρ (.tmp 13) = .slice (some ⟨bs, os, none⟩) q.length cs := And.left hI
              clear hI; have HB := Lib.hid hB; have HS := Lib.hid hS; clear hB hS
              exact Upd.of (ex_move rfl) ⟨Below.refl _ _, h13⟩
            · refine OpOk.grow rfl (GuardYes.none rfl) ?_
              intro ρ S w1 hc hB hS hI
              have h17 : ρ (.tmp 17) = .int .i64 (j : Int) := And.left hI
              clear hI; have HB := Lib.hid hB; have HS := Lib.hid hS; clear hB hS
              exact Upd.of (ex_move rfl) ⟨Below.refl _ _, h17⟩
            · refine OpOk.grow rfl (GuardYes.none rfl) ?_
              intro ρ S w1 hc hB hS hI
              have h117 : ρ (.tmp 117) = .slice (some ⟨bs, os, none⟩) q.length cs := And.left hI
              have h118 : ρ (.tmp 118) = .int .i64 (j : Int) := And.left (And.right hI)
              clear hI; have HB := Lib.hid hB; have HS := Lib.hid hS; clear hB hS
              refine Upd.hide fun R1 hR1 => ?_
              go_simp
              exact Upd.ok (hR1 _ _ ⟨Below.refl _ _, rfl⟩)
            · refine OpOk.grow rfl (GuardYes.none rfl) ?_
              intro ρ S w1 hc hB hS hI
              have h119 : ρ (.tmp 119) = .pointer (some ⟨bs, os + j, none⟩) := And.left hI
              clear hI; have HB := Lib.hid hB; have HS := Lib.hid hS; clear hB hS
              have hcl : w1.cell? ⟨bs, os + j, none⟩ = some (.bool z) := ((HB.out).cell (p := ⟨bs, os + j, none⟩) HBS.out).trans HCS.out
              refine Upd.hide fun R1 hR1 => ?_
              go_simp
              exact Upd.ok (hR1 _ _ ⟨Below.refl _ _, rfl⟩)
            · refine OpOk.grow rfl (GuardYes.none rfl) ?_
              intro ρ S w1 hc hB hS hI
              have h112 : ρ (.tmp 112) = .int .u64 h := And.left hI
              have h116 : ρ (.tmp 116) = .int .u64 b := And.left (And.right hI)
              have h120 : ρ (.tmp 120) = .bool z := And.left (And.right (And.right hI))
              have hc1 := hc.const; have hc2 := hc.func
              clear hI; have HB := Lib.hid hB; have HS := Lib.hid hS; clear hB hS
              refine Upd.call (vs := #[.int .u64 h, .int .u64 b, .bool z]) rfl hc (by kernel_rfl) (by simp only [List.map_toArray, List.map_cons, List.map_nil, h112, h116, h120]) ?_
              refine (Up_calls _ _ _ _).mono ?_
              rintro e w2 ⟨rfl, rfl⟩
              exact ⟨_, rfl, Below.refl _ _, rfl⟩
            · refine OpOk.grow rfl (GuardYes.none rfl) ?_
              intro ρ S w1 hc hB hS hI
              have h111 : ρ (.tmp 111) = .int .u64 (upF g a z) := And.left hI
              clear hI; have HB := Lib.hid hB; have HS := Lib.hid hS; clear hB hS
              exact Upd.of (ex_assign rfl) ⟨Below.refl _ _, h111⟩
            · refine OpOk.grow rfl (GuardYes.none rfl) ?_
              intro ρ S w1 hc hB hS hI
              have h121 : ρ (.tmp 121) = .int .u64 (upF h b z) := And.left hI
              clear hI; have HB := Lib.hid hB; have HS := Lib.hid hS; clear hB hS
              exact Upd.of (ex_assign rfl) ⟨Below.refl _ _, h121⟩
          · intro env2 Sr2 wr2 hB2 hSr2 hF2
            have f0 : env2 0 = .int .u64 g := hF2 0 (by decide) rfl
            have f1 : env2 1 = .pointer (some ⟨bx, 0, none⟩) := hF2 1 (by decide) rfl
            have f2 : env2 2 = .slice (some ⟨bq, oq, none⟩) q.length cp := hF2 2 (by decide) rfl
            have f3 : env2 3 = .int .i64 (j : Int) := hF2 3 (by decide) rfl
            have f4 : env2 4 = .pointer (some ⟨bq, oq + j, none⟩) := hF2 4 (by decide) rfl
            have f5 : env2 5 = .int .u64 a := hF2 5 (by decide) rfl
            have f6 : env2 6 = .slice (some ⟨bs, os, none⟩) q.length cs := hF2 6 (by decide) rfl
            have f7 : env2 7 = .int .i64 (j : Int) := hF2 7 (by decide) rfl
            have f8 : env2 8 = .pointer (some ⟨bs, os + j, none⟩) := hF2 8 (by decide) rfl
            have f9 : env2 9 = .bool z := hF2 9 (by decide) rfl
            have f10 : env2 10 = .int .u64 (upF g a z) := hF2 10 (by decide) rfl
            have f11 : env2 11 = .int .u64 h := hF2 11 (by decide) rfl
            have f12 : env2 12 = .slice (some ⟨bp, op, none⟩) q.length c := hF2 12 (by decide) rfl
            have f13 : env2 13 = .int .i64 (j : Int) := hF2 13 (by decide) rfl
            have f14 : env2 14 = .pointer (some ⟨bp, op + j, none⟩) := hF2 14 (by decide) rfl
            have f15 : env2 15 = .int .u64 b := hF2 15 (by decide) rfl
            have f16 : env2 16 = .slice (some ⟨bs, os, none⟩) q.length cs := hF2 16 (by decide) rfl
            have f17 : env2 17 = .int .i64 (j : Int) := hF2 17 (by decide) rfl
            have f18 : env2 18 = .pointer (some ⟨bs, os + j, none⟩) := hF2 18 (by decide) rfl
            have f19 : env2 19 = .bool z := hF2 19 (by decide) rfl
            have f20 : env2 20 = .int .u64 (upF h b z) := hF2 20 (by decide) rfl
            have f21 : env2 21 = .int .u64 (upF g a z) := hF2 21 (by decide) rfl
            have f22 : env2 22 = .int .u64 (upF h b z) := hF2 22 (by decide) rfl
            clear hF2
            simp only [List.take_succ_cons, List.take_nil, List.drop_nil, List.drop_succ_cons, putAll, Act.put, List.setIfInBounds_toArray, List.set_cons_succ, List.set_cons_zero, Nat.reduceAdd, f0, f1, f2, f3, f4, f5, f6, f7, f8, f9, f10, f11, f12, f13, f14, f15, f16, f17, f18, f19, f20, f21, f22]
            clear f0 f1 f2 f3 f4 f5 f6 f7 f8 f9 f10 f11 f12 f13 f14 f15 f16 f17 f18 f19 f20 f21 f22
            refine wpList_nil ?_
            have HCQ := Lib.hid ((hB2.cell (p := ⟨bq, oq + j, none⟩) HBQ.out).trans HCQ.out)
            have HBQ := Lib.hid (Nat.lt_of_lt_of_le HBQ.out hB2.size)
            have HCP := Lib.hid ((hB2.cell (p := ⟨bp, op + j, none⟩) HBP.out).trans HCP.out)
            have HBP := Lib.hid (Nat.lt_of_lt_of_le HBP.out hB2.size)
            have HCS := Lib.hid ((hB2.cell (p := ⟨bs, os + j, none⟩) HBS.out).trans HCS.out)
            have HBS := Lib.hid (Nat.lt_of_lt_of_le HBS.out hB2.size)
            have HX := Lib.hid (HX.out.later hB2)
            have HWR := Lib.hid (HWR.out.trans (hB2.mono HWR.out.size))
            clear hB2 hSr2
            generalize upF g a z = A at *
            generalize upF h b z = B at *
            go_upto_region 19 with (fail)
            by_cases hgh : g = h
            · have HGH : Hid ((g != h) = false) := by show _ = _; rw [hgh]; exact bne_self_eq_false _
              have he : e = true := by cases e with | true => rfl | false => exact absurd hgh (HNE.out rfl)
              subst he
              clear hgh HNE
              by_cases hab : a = b
              · have HAB : Hid ((a != b) = false) := by show _ = _; rw [hab]; exact bne_self_eq_false _
                have HABE : Hid ((a == b) = true) := beq_iff_eq.2 hab
                clear hab
                refine wp_region_table 20 [RKnown (.int .u64 g) [(14, none)],
                  RKnown (.int .u64 h) [(15, none)],
                  RKnown (.bool false) [(122, some 0), (123, some 1)],
                  RKnown (.bool false) [(124, some 2)],
                  RKnown (.pointer (some ⟨bx, 0, none⟩)) [(11, none)],
                  RKnown (.slice (some ⟨bq, oq, none⟩) q.length cp) [(126, some 4)],
                  RKnown (.int .i64 (j : Int)) [(17, none)],
                  RKnown (.pointer (some ⟨bq, oq + j, none⟩)) [(127, some 5), (128, some 6)],
                  RKnown (.int .u64 a) [(129, some 7)],
                  RKnown (.slice (some ⟨bp, op, none⟩) q.length c) [(12, none)],
                  RKnown (.int .i64 (j : Int)) [(17, none)],
                  RKnown (.pointer (some ⟨bp, op + j, none⟩)) [(131, some 9), (132, some 10)],
                  RKnown (.int .u64 b) [(133, some 11)],
                  RKnown (.bool false) [(130, some 8), (134, some 12)],
                  RKnown (.bool false) [(125, some 3), (135, some 13)],
                  RKnown (.bool false) [(136, some 14)],
                  RSkip,
                  RSkip,
                  RSkip,
                  RKnown (.bool false) [(137, some 15), (140, some 18)]] (by kernel_rfl) (by kernel_rfl) (by kernel_rfl) ?_ ?_
                · refine ⟨?_, ?_, ?_, ?_, ?_, ?_, ?_, ?_, ?_, ?_, ?_, ?_, ?_, ?_, ?_, ?_, ?_, ?_, ?_, ?_, trivial⟩
                  · refine OpOk.grow rfl (GuardYes.none rfl) ?_
                    intro ρ S w1 hc hB hS hI
                    have h14 : ρ (.tmp 14) = .int .u64 g := And.left hI
                    clear hI; have HB := Lib.hid hB; have HS := Lib.hid hS; clear hB hS
                    exact Upd.of (ex_move rfl) ⟨Below.refl _ _, h14⟩
                  · refine OpOk.grow rfl (GuardYes.none rfl) ?_
                    intro ρ S w1 hc hB hS hI
                    have h15 : ρ (.tmp 15) = .int .u64 h := And.left hI
                    clear hI; have HB := Lib.hid hB; have HS := Lib.hid hS; clear hB hS
                    exact Upd.of (ex_move rfl) ⟨Below.refl _ _, h15⟩
                  · refine OpOk.grow rfl (GuardYes.none rfl) ?_
                    intro ρ S w1 hc hB hS hI
                    have h122 : ρ (.tmp 122) = .int .u64 g := And.left hI
                    have h123 : ρ (.tmp 123) = .int .u64 h := And.left (And.right hI)
                    clear hI; have HB := Lib.hid hB; have HS := Lib.hid hS; clear hB hS
                    have hx := HGH.out
                    refine Upd.hide fun R1 hR1 => ?_
                    go_simp
                    exact Upd.ok (hR1 _ _ ⟨Below.refl _ _, by first | rfl | simp | simp [hx]⟩)
                  · refine OpOk.grow rfl (GuardYes.none rfl) ?_
                    intro ρ S w1 hc hB hS hI
                    have h124 : ρ (.tmp 124) = .bool false := And.left hI
                    clear hI; have HB := Lib.hid hB; have HS := Lib.hid hS; clear hB hS
                    exact Upd.of (ex_move rfl) ⟨Below.refl _ _, h124⟩
                  · refine OpOk.grow rfl (GuardYes.some rfl (fun _ _ _ h => h)) ?_
                    intro ρ S w1 hc hB hS hI
                    have h11 : ρ (.tmp 11) = .pointer (some ⟨bx, 0, none⟩) := And.left hI
                    clear hI; have HB := Lib.hid hB; have HS := Lib.hid hS; clear hB hS
                    refine Upd.hide fun R1 hR1 => ?_
                    go_simp
                    exact Upd.ok (hR1 _ _ ⟨Below.refl _ _, rfl⟩)
                  · refine OpOk.grow rfl (GuardYes.some rfl (fun _ _ _ h => h)) ?_
                    intro ρ S w1 hc hB hS hI
                    have h126 : ρ (.tmp 126) = .pointer (some ⟨bx, 0, none⟩) := And.left hI
                    clear hI; have HB := Lib.hid hB; have HS := Lib.hid hS; clear hB hS
                    have hcl := (HX.out.later HB.out).cell 0 (v := .slice (some ⟨bq, oq, none⟩) q.length cp) rfl
                    refine Upd.hide fun R1 hR1 => ?_
                    go_simp
                    exact Upd.ok (hR1 _ _ ⟨Below.refl _ _, rfl⟩)
                  · refine OpOk.grow rfl (GuardYes.some rfl (fun _ _ _ h => h)) ?_
                    intro ρ S w1 hc hB hS hI
                    have h17 : ρ (.tmp 17) = .int .i64 (j : Int) := And.left hI
                    clear hI; have HB := Lib.hid hB; have HS := Lib.hid hS; clear hB hS
                    exact Upd.of (ex_move rfl) ⟨Below.refl _ _, h17⟩
                  · refine OpOk.grow rfl (GuardYes.some rfl (fun _ _ _ h => h)) ?_
                    intro ρ S w1 hc hB hS hI
                    have h127 : ρ (.tmp 127) = .slice (some ⟨bq, oq, none⟩) q.length cp := And.left hI
                    have h128 : ρ (.tmp 128) = .int .i64 (j : Int) := And.left (And.right hI)
                    clear hI; have HB := Lib.hid hB; have HS := Lib.hid hS; clear hB hS
                    refine Upd.hide fun R1 hR1 => ?_
                    go_simp
                    exact Upd.ok (hR1 _ _ ⟨Below.refl _ _, rfl⟩)
                  · refine OpOk.grow rfl (GuardYes.some rfl (fun _ _ _ h => h)) ?_
                    intro ρ S w1 hc hB hS hI
                    have h129 : ρ (.tmp 129) = .pointer (some ⟨bq, oq + j, none⟩) := And.left hI
                    clear hI; have HB := Lib.hid hB; have HS := Lib.hid hS; clear hB hS
                    have hcl : w1.cell? ⟨bq, oq + j, none⟩ = some (.int .u64 a) := ((HB.out).cell (p := ⟨bq, oq + j, none⟩) HBQ.out).trans HCQ.out
                    refine Upd.hide fun R1 hR1 => ?_
                    go_simp
                    exact Upd.ok (hR1 _ _ ⟨Below.refl _ _, rfl⟩)
                  · refine OpOk.grow rfl (GuardYes.some rfl (fun _ _ _ h => h)) ?_
                    intro ρ S w1 hc hB hS hI
                    have h12 : ρ (.tmp 12) = .slice (some ⟨bp, op, none⟩) q.length c := And.left hI
                    clear hI; have HB := Lib.hid hB; have HS := Lib.hid hS; clear hB hS
                    exact Upd.of (ex_move rfl) ⟨Below.refl _ _, h12⟩
                  · refine OpOk.grow rfl (GuardYes.some rfl (fun _ _ _ h => h)) ?_
                    intro ρ S w1 hc hB hS hI
                    have h17 : ρ (.tmp 17) = .int .i64 (j : Int) := And.left hI
                    clear hI; have HB := Lib.hid hB; have HS := Lib.hid hS; clear hB hS
                    exact Upd.of (ex_move rfl) ⟨Below.refl _ _, h17⟩
                  · refine OpOk.grow rfl (GuardYes.some rfl (fun _ _ _ h => h)) ?_
                    intro ρ S w1 hc hB hS hI
                    have h131 : ρ (.tmp 131) = .slice (some ⟨bp, op, none⟩) q.length c := And.left hI
                    have h132 : ρ (.tmp 132) = .int .i64 (j : Int) := And.left (And.right hI)
                    clear hI; have HB := Lib.hid hB; have HS := Lib.hid hS; clear hB hS
                    refine Upd.hide fun R1 hR1 => ?_
                    go_simp
                    exact Upd.ok (hR1 _ _ ⟨Below.refl _ _, rfl⟩)
                  · refine OpOk.grow rfl (GuardYes.some rfl (fun _ _ _ h => h)) ?_
                    intro ρ S w1 hc hB hS hI
                    have h133 : ρ (.tmp 133) = .pointer (some ⟨bp, op + j, none⟩) := And.left hI
                    clear hI; have HB := Lib.hid hB; have HS := Lib.hid hS; clear hB hS
                    have hcl : w1.cell? ⟨bp, op + j, none⟩ = some (.int .u64 b) := ((HB.out).cell (p := ⟨bp, op + j, none⟩) HBP.out).trans HCP.out
                    refine Upd.hide fun R1 hR1 => ?_
                    go_simp
                    exact Upd.ok (hR1 _ _ ⟨Below.refl _ _, rfl⟩)
                  · refine OpOk.grow rfl (GuardYes.some rfl (fun _ _ _ h => h)) ?_
                    intro ρ S w1 hc hB hS hI
                    have h130 : ρ (.tmp 130) = .int .u64 a := And.left hI
                    have h134 : ρ (.tmp 134) = .int .u64 b := And.left (And.right hI)
                    clear hI; have HB := Lib.hid hB; have HS := Lib.hid hS; clear hB hS
                    have hx := HAB.out
                    refine Upd.hide fun R1 hR1 => ?_
                    go_simp
                    exact Upd.ok (hR1 _ _ ⟨Below.refl _ _, by first | rfl | simp | simp [hx]⟩)
                  · refine OpOk.grow rfl (GuardYes.none rfl) ?_
                    intro ρ S w1 hc hB hS hI
                    have h125 : ρ (.tmp 125) = .bool false := And.left hI
                    have h135 : ρ (.tmp 135) = .bool false := And.left (And.right hI)
                    have hc1 := hc.const; have hc2 := hc.func
                    clear hI; have HB := Lib.hid hB; have HS := Lib.hid hS; clear hB hS
                    exact Upd.of (ex_pick rfl h125) ⟨Below.refl _ _, h135⟩
                  · refine OpOk.grow rfl (GuardYes.none rfl) ?_
                    intro ρ S w1 hc hB hS hI
                    have h136 : ρ (.tmp 136) = .bool false := And.left hI
                    clear hI; have HB := Lib.hid hB; have HS := Lib.hid hS; clear hB hS
                    exact Upd.of (ex_move rfl) ⟨Below.refl _ _, h136⟩
                  · exact OpOk.skip rfl (GuardNo.some rfl (fun _ _ _ h => .inl h)) (fun _ _ => rfl)
                  · exact OpOk.skip rfl (GuardNo.some rfl (fun _ _ _ h => .inl h)) (fun _ _ => rfl)
                  · exact OpOk.skip rfl (GuardNo.some rfl (fun _ _ _ h => .inl h)) (fun _ _ => rfl)
                  · refine OpOk.grow rfl (GuardYes.none rfl) ?_
                    intro ρ S w1 hc hB hS hI
                    have h137 : ρ (.tmp 137) = .bool false := And.left hI
                    have h140 : ρ (.tmp 140) = undef := And.left (And.right hI)
                    have hc1 := hc.const; have hc2 := hc.func
                    clear hI; have HB := Lib.hid hB; have HS := Lib.hid hS; clear hB hS
                    exact Upd.of (ex_pick rfl h137) ⟨Below.refl _ _, hc1 _⟩
                · intro env6 Sr6 wr6 hB6 hSr6 hF6
                  have f0 : env6 0 = .int .u64 g := hF6 0 (by decide) rfl
                  have f1 : env6 1 = .int .u64 h := hF6 1 (by decide) rfl
                  have f2 : env6 2 = .bool false := hF6 2 (by decide) rfl
                  have f3 : env6 3 = .bool false := hF6 3 (by decide) rfl
                  have f4 : env6 4 = .pointer (some ⟨bx, 0, none⟩) := hF6 4 (by decide) rfl
                  have f5 : env6 5 = .slice (some ⟨bq, oq, none⟩) q.length cp := hF6 5 (by decide) rfl
                  have f6 : env6 6 = .int .i64 (j : Int) := hF6 6 (by decide) rfl
                  have f7 : env6 7 = .pointer (some ⟨bq, oq + j, none⟩) := hF6 7 (by decide) rfl
                  have f8 : env6 8 = .int .u64 a := hF6 8 (by decide) rfl
                  have f9 : env6 9 = .slice (some ⟨bp, op, none⟩) q.length c := hF6 9 (by decide) rfl
                  have f10 : env6 10 = .int .i64 (j : Int) := hF6 10 (by decide) rfl
                  have f11 : env6 11 = .pointer (some ⟨bp, op + j, none⟩) := hF6 11 (by decide) rfl
                  have f12 : env6 12 = .int .u64 b := hF6 12 (by decide) rfl
                  have f13 : env6 13 = .bool false := hF6 13 (by decide) rfl
                  have f14 : env6 14 = .bool false := hF6 14 (by decide) rfl
                  have f15 : env6 15 = .bool false := hF6 15 (by decide) rfl
                  have f16 : env6 16 = undef := hF6 16 (by decide) rfl
                  have f17 : env6 17 = undef := hF6 17 (by decide) rfl
                  have f18 : env6 18 = undef := hF6 18 (by decide) rfl
                  have f19 : env6 19 = .bool false := hF6 19 (by decide) rfl
                  clear hF6
                  simp only [List.take_succ_cons, List.take_nil, List.drop_nil, List.drop_succ_cons, putAll, Act.put, List.setIfInBounds_toArray, List.set_cons_succ, List.set_cons_zero, Nat.reduceAdd, f0, f1, f2, f3, f4, f5, f6, f7, f8, f9, f10, f11, f12, f13, f14, f15, f16, f17, f18, f19]
                  clear f0 f1 f2 f3 f4 f5 f6 f7 f8 f9 f10 f11 f12 f13 f14 f15 f16 f17 f18 f19
                  refine wpList_nil ?_
                  have HCQ := Lib.hid ((hB6.cell (p := ⟨bq, oq + j, none⟩) HBQ.out).trans HCQ.out)
                  have HBQ := Lib.hid (Nat.lt_of_lt_of_le HBQ.out hB6.size)
                  have HCP := Lib.hid ((hB6.cell (p := ⟨bp, op + j, none⟩) HBP.out).trans HCP.out)
                  have HBP := Lib.hid (Nat.lt_of_lt_of_le HBP.out hB6.size)
                  have HCS := Lib.hid ((hB6.cell (p := ⟨bs, os + j, none⟩) HBS.out).trans HCS.out)
                  have HBS := Lib.hid (Nat.lt_of_lt_of_le HBS.out hB6.size)
                  have HX := Lib.hid (HX.out.later hB6)
                  have HWR := Lib.hid (HWR.out.trans (hB6.mono HWR.out.size))
                  clear hB6 hSr6
                  go_upto_region 21 with (fail)
                  refine wp_region_table 14 [RKnown (.bool true) [(16, none)],
                    RKnown (.bool true) [(143, some 0)],
                    RKnown (.pointer (some ⟨bx, 0, none⟩)) [(11, none)],
                    RKnown (.slice (some ⟨bq, oq, none⟩) q.length cp) [(145, some 2)],
                    RKnown (.int .i64 (j : Int)) [(17, none)],
                    RKnown (.pointer (some ⟨bq, oq + j, none⟩)) [(146, some 3), (147, some 4)],
                    RKnown (.int .u64 a) [(148, some 5)],
                    RKnown (.slice (some ⟨bp, op, none⟩) q.length c) [(12, none)],
                    RKnown (.int .i64 (j : Int)) [(17, none)],
                    RKnown (.pointer (some ⟨bp, op + j, none⟩)) [(150, some 7), (151, some 8)],
                    RKnown (.int .u64 b) [(152, some 9)],
                    RKnown (.bool (a == b)) [(149, some 6), (153, some 10)],
                    RKnown (.bool (a == b)) [(144, some 1), (154, some 11)],
                    RKnown (.bool (a == b)) [(155, some 12)]] (by kernel_rfl) (by kernel_rfl) (by kernel_rfl) ?_ ?_
                  · refine ⟨?_, ?_, ?_, ?_, ?_, ?_, ?_, ?_, ?_, ?_, ?_, ?_, ?_, ?_, trivial⟩
                    · refine OpOk.grow rfl (GuardYes.none rfl) ?_
                      intro ρ S w1 hc hB hS hI
                      have h16 : ρ (.tmp 16) = .bool true := And.left hI
                      clear hI; have HB := Lib.hid hB; have HS := Lib.hid hS; clear hB hS
                      exact Upd.of (ex_move rfl) ⟨Below.refl _ _, h16⟩
                    · refine OpOk.grow rfl (GuardYes.none rfl) ?_
                      intro ρ S w1 hc hB hS hI
                      have h143 : ρ (.tmp 143) = .bool true := And.left hI
                      clear hI; have HB := Lib.hid hB; have HS := Lib.hid hS; clear hB hS
                      exact Upd.of (ex_move rfl) ⟨Below.refl _ _, h143⟩
                    · refine OpOk.grow rfl (GuardYes.some rfl (fun _ _ _ h => h)) ?_
                      intro ρ S w1 hc hB hS hI
                      have h11 : ρ (.tmp 11) = .pointer (some ⟨bx, 0, none⟩) := And.left hI
                      clear hI; have HB := Lib.hid hB; have HS := Lib.hid hS; clear hB hS
                      refine Upd.hide fun R1 hR1 => ?_
                      go_simp
                      exact Upd.ok (hR1 _ _ ⟨Below.refl _ _, rfl⟩)
                    · refine OpOk.grow rfl (GuardYes.some rfl (fun _ _ _ h => h)) ?_
                      intro ρ S w1 hc hB hS hI
                      have h145 : ρ (.tmp 145) = .pointer (some ⟨bx, 0, none⟩) := And.left hI
                      clear hI; have HB := Lib.hid hB; have HS := Lib.hid hS; clear hB hS
                      have hcl := (HX.out.later HB.out).cell 0 (v := .slice (some ⟨bq, oq, none⟩) q.length cp) rfl
                      refine Upd.hide fun R1 hR1 => ?_
                      go_simp
                      exact Upd.ok (hR1 _ _ ⟨Below.refl _ _, rfl⟩)
                    · refine OpOk.grow rfl (GuardYes.some rfl (fun _ _ _ h => h)) ?_
                      intro ρ S w1 hc hB hS hI
                      have h17 : ρ (.tmp 17) = .int .i64 (j : Int) := And.left hI
                      clear hI; have HB := Lib.hid hB; have HS := Lib.hid hS; clear hB hS
                      exact Upd.of (ex_move rfl) ⟨Below.refl _ _, h17⟩
                    · refine OpOk.grow rfl (GuardYes.some rfl (fun _ _ _ h => h)) ?_
                      intro ρ S w1 hc hB hS hI
                      have h146 : ρ (.tmp 146) = .slice (some ⟨bq, oq, none⟩) q.length cp := And.left hI
                      have h147 : ρ (.tmp 147) = .int .i64 (j : Int) := And.left (And.right hI)
                      clear hI; have HB := Lib.hid hB; have HS := Lib.hid hS; clear hB hS
                      refine Upd.hide fun R1 hR1 => ?_
                      go_simp
                      exact Upd.ok (hR1 _ _ ⟨Below.refl _ _, rfl⟩)
                    · refine OpOk.grow rfl (GuardYes.some rfl (fun _ _ _ h => h)) ?_
                      intro ρ S w1 hc hB hS hI
                      have h148 : ρ (.tmp 148) = .pointer (some ⟨bq, oq + j, none⟩) := And.left hI
                      clear hI; have HB := Lib.hid hB; have HS := Lib.hid hS; clear hB hS
                      have hcl : w1.cell? ⟨bq, oq + j, none⟩ = some (.int .u64 a) := ((HB.out).cell (p := ⟨bq, oq + j, none⟩) HBQ.out).trans HCQ.out
                      refine Upd.hide fun R1 hR1 => ?_
                      go_simp
                      exact Upd.ok (hR1 _ _ ⟨Below.refl _ _, rfl⟩)
                    · refine OpOk.grow rfl (GuardYes.some rfl (fun _ _ _ h => h)) ?_
                      intro ρ S w1 hc hB hS hI
                      have h12 : ρ (.tmp 12) = .slice (some ⟨bp, op, none⟩) q.length c := And.left hI
                      clear hI; have HB := Lib.hid hB; have HS := Lib.hid hS; clear hB hS
                      exact Upd.of (ex_move rfl) ⟨Below.refl _ _, h12⟩
                    · refine OpOk.grow rfl (GuardYes.some rfl (fun _ _ _ h => h)) ?_
                      intro ρ S w1 hc hB hS hI
                      have h17 : ρ (.tmp 17) = .int .i64 (j : Int) := And.left hI
                      clear hI; have HB := Lib.hid hB; have HS := Lib.hid hS; clear hB hS
                      exact Upd.of (ex_move rfl) ⟨Below.refl _ _, h17⟩
                    · refine OpOk.grow rfl (GuardYes.some rfl (fun _ _ _ h => h)) ?_
                      intro ρ S w1 hc hB hS hI
                      have h150 : ρ (.tmp 150) = .slice (some ⟨bp, op, none⟩) q.length c := And.left hI
                      have h151 : ρ (.tmp 151) = .int .i64 (j : Int) := And.left (And.right hI)
                      clear hI; have HB := Lib.hid hB; have HS := Lib.hid hS; clear hB hS
                      refine Upd.hide fun R1 hR1 => ?_
                      go_simp
                      exact Upd.ok (hR1 _ _ ⟨Below.refl _ _, rfl⟩)
                    · refine OpOk.grow rfl (GuardYes.some rfl (fun _ _ _ h => h)) ?_
                      intro ρ S w1 hc hB hS hI
                      have h152 : ρ (.tmp 152) = .pointer (some ⟨bp, op + j, none⟩) := And.left hI
                      clear hI; have HB := Lib.hid hB; have HS := Lib.hid hS; clear hB hS
                      have hcl : w1.cell? ⟨bp, op + j, none⟩ = some (.int .u64 b) := ((HB.out).cell (p := ⟨bp, op + j, none⟩) HBP.out).trans HCP.out
                      refine Upd.hide fun R1 hR1 => ?_
                      go_simp
                      exact Upd.ok (hR1 _ _ ⟨Below.refl _ _, rfl⟩)
                    · refine OpOk.grow rfl (GuardYes.some rfl (fun _ _ _ h => h)) ?_
                      intro ρ S w1 hc hB hS hI
                      have h149 : ρ (.tmp 149) = .int .u64 a := And.left hI
                      have h153 : ρ (.tmp 153) = .int .u64 b := And.left (And.right hI)
                      clear hI; have HB := Lib.hid hB; have HS := Lib.hid hS; clear hB hS
                      refine Upd.hide fun R1 hR1 => ?_
                      go_simp
                      exact Upd.ok (hR1 _ _ ⟨Below.refl _ _, rfl⟩)
                    · refine OpOk.grow rfl (GuardYes.none rfl) ?_
                      intro ρ S w1 hc hB hS hI
                      have h144 : ρ (.tmp 144) = .bool true := And.left hI
                      have h154 : ρ (.tmp 154) = .bool (a == b) := And.left (And.right hI)
                      have hc1 := hc.const; have hc2 := hc.func
                      clear hI; have HB := Lib.hid hB; have HS := Lib.hid hS; clear hB hS
                      exact Upd.of (ex_pick rfl h144) ⟨Below.refl _ _, h154⟩
                    · refine OpOk.grow rfl (GuardYes.none rfl) ?_
                      intro ρ S w1 hc hB hS hI
                      have h155 : ρ (.tmp 155) = .bool (a == b) := And.left hI
                      clear hI; have HB := Lib.hid hB; have HS := Lib.hid hS; clear hB hS
                      exact Upd.of (ex_assign rfl) ⟨Below.refl _ _, h155⟩
                  · intro env6b Sr6b wr6b hB6b hSr6b hF6b
                    have f0 : env6b 0 = .bool true := hF6b 0 (by decide) rfl
                    have f1 : env6b 1 = .bool true := hF6b 1 (by decide) rfl
                    have f2 : env6b 2 = .pointer (some ⟨bx, 0, none⟩) := hF6b 2 (by decide) rfl
                    have f3 : env6b 3 = .slice (some ⟨bq, oq, none⟩) q.length cp := hF6b 3 (by decide) rfl
                    have f4 : env6b 4 = .int .i64 (j : Int) := hF6b 4 (by decide) rfl
                    have f5 : env6b 5 = .pointer (some ⟨bq, oq + j, none⟩) := hF6b 5 (by decide) rfl
                    have f6 : env6b 6 = .int .u64 a := hF6b 6 (by decide) rfl
                    have f7 : env6b 7 = .slice (some ⟨bp, op, none⟩) q.length c := hF6b 7 (by decide) rfl
                    have f8 : env6b 8 = .int .i64 (j : Int) := hF6b 8 (by decide) rfl
                    have f9 : env6b 9 = .pointer (some ⟨bp, op + j, none⟩) := hF6b 9 (by decide) rfl
                    have f10 : env6b 10 = .int .u64 b := hF6b 10 (by decide) rfl
                    have f11 : env6b 11 = .bool (a == b) := hF6b 11 (by decide) rfl
                    have f12 : env6b 12 = .bool (a == b) := hF6b 12 (by decide) rfl
                    have f13 : env6b 13 = .bool (a == b) := hF6b 13 (by decide) rfl
                    clear hF6b
                    simp only [List.take_succ_cons, List.take_nil, List.drop_nil, List.drop_succ_cons, putAll, Act.put, List.setIfInBounds_toArray, List.set_cons_succ, List.set_cons_zero, Nat.reduceAdd, f0, f1, f2, f3, f4, f5, f6, f7, f8, f9, f10, f11, f12, f13]
                    clear f0 f1 f2 f3 f4 f5 f6 f7 f8 f9 f10 f11 f12 f13
                    refine wpList_nil ?_
                    have HCQ := Lib.hid ((hB6b.cell (p := ⟨bq, oq + j, none⟩) HBQ.out).trans HCQ.out)
                    have HBQ := Lib.hid (Nat.lt_of_lt_of_le HBQ.out hB6b.size)
                    have HCP := Lib.hid ((hB6b.cell (p := ⟨bp, op + j, none⟩) HBP.out).trans HCP.out)
                    have HBP := Lib.hid (Nat.lt_of_lt_of_le HBP.out hB6b.size)
                    have HCS := Lib.hid ((hB6b.cell (p := ⟨bs, os + j, none⟩) HBS.out).trans HCS.out)
                    have HBS := Lib.hid (Nat.lt_of_lt_of_le HBS.out hB6b.size)
                    have HX := Lib.hid (HX.out.later hB6b)
                    have HWR := Lib.hid (HWR.out.trans (hB6b.mono HWR.out.size))
                    clear hB6b hSr6b
                    go_wp2
                    go_roundw
                    case rel => exact ⟨j + 1, A, B, (a == b), rfl, rfl, rfl, by go_num, by omega, HG.out.symm, HH.out.symm, (fun h => absurd (h.symm.trans HABE.out) (by decide)), HWR.out⟩
                    case measure => simp [intOf]; omega
              · have HAB : Hid ((a != b) = true) := bne_iff_ne.2 hab
                clear hab
                refine wp_region_table 20 [RKnown (.int .u64 g) [(14, none)],
                  RKnown (.int .u64 h) [(15, none)],
                  RKnown (.bool false) [(122, some 0), (123, some 1)],
                  RKnown (.bool false) [(124, some 2)],
                  RKnown (.pointer (some ⟨bx, 0, none⟩)) [(11, none)],
                  RKnown (.slice (some ⟨bq, oq, none⟩) q.length cp) [(126, some 4)],
                  RKnown (.int .i64 (j : Int)) [(17, none)],
                  RKnown (.pointer (some ⟨bq, oq + j, none⟩)) [(127, some 5), (128, some 6)],
                  RKnown (.int .u64 a) [(129, some 7)],
                  RKnown (.slice (some ⟨bp, op, none⟩) q.length c) [(12, none)],
                  RKnown (.int .i64 (j : Int)) [(17, none)],
                  RKnown (.pointer (some ⟨bp, op + j, none⟩)) [(131, some 9), (132, some 10)],
                  RKnown (.int .u64 b) [(133, some 11)],
                  RKnown (.bool true) [(130, some 8), (134, some 12)],
                  RKnown (.bool true) [(125, some 3), (135, some 13)],
                  RKnown (.bool true) [(136, some 14)],
                  RKnown (.int .u64 A) [(18, none)],
                  RKnown (.int .u64 B) [(19, none)],
                  RKnown (.bool (A == B)) [(138, some 16), (139, some 17)],
                  RKnown (.bool (A == B)) [(137, some 15), (140, some 18)]] (by kernel_rfl) (by kernel_rfl) (by kernel_rfl) ?_ ?_
                · refine ⟨?_, ?_, ?_, ?_, ?_, ?_, ?_, ?_, ?_, ?_, ?_, ?_, ?_, ?_, ?_, ?_, ?_, ?_, ?_, ?_, trivial⟩
                  · refine OpOk.grow rfl (GuardYes.none rfl) ?_
                    intro ρ S w1 hc hB hS hI
                    have h14 : ρ (.tmp 14) = .int .u64 g := And.left hI
                    clear hI; have HB := Lib.hid hB; have HS := Lib.hid hS; clear hB hS
                    exact Upd.of (ex_move rfl) ⟨Below.refl _ _, h14⟩
                  · refine OpOk.grow rfl (GuardYes.none rfl) ?_
                    intro ρ S w1 hc hB hS hI
                    have h15 : ρ (.tmp 15) = .int .u64 h := And.left hI
                    clear hI; have HB := Lib.hid hB; have HS := Lib.hid hS; clear hB hS
                    exact Upd.of (ex_move rfl) ⟨Below.refl _ _, h15⟩
                  · refine OpOk.grow rfl (GuardYes.none rfl) ?_
                    intro ρ S w1 hc hB hS hI
                    have h122 : ρ (.tmp 122) = .int .u64 g := And.left hI
                    have h123 : ρ (.tmp 123) = .int .u64 h := And.left (And.right hI)
                    clear hI; have HB := Lib.hid hB; have HS := Lib.hid hS; clear hB hS
                    have hx := HGH.out
                    refine Upd.hide fun R1 hR1 => ?_
                    go_simp
                    exact Upd.ok (hR1 _ _ ⟨Below.refl _ _, by first | rfl | simp | simp [hx]⟩)
                  · refine OpOk.grow rfl (GuardYes.none rfl) ?_
                    intro ρ S w1 hc hB hS hI
                    have h124 : ρ (.tmp 124) = .bool false := And.left hI
                    clear hI; have HB := Lib.hid hB; have HS := Lib.hid hS; clear hB hS
                    exact Upd.of (ex_move rfl) ⟨Below.refl _ _, h124⟩
                  · refine OpOk.grow rfl (GuardYes.some rfl (fun _ _ _ h => h)) ?_
                    intro ρ S w1 hc hB hS hI
                    have h11 : ρ (.tmp 11) = .pointer (some ⟨bx, 0, none⟩) := And.left hI
                    clear hI; have HB := Lib.hid hB; have HS := Lib.hid hS; clear hB hS
                    refine Upd.hide fun R1 hR1 => ?_
                    go_simp
                    exact Upd.ok (hR1 _ _ ⟨Below.refl _ _, rfl⟩)
                  · refine OpOk.grow rfl (GuardYes.some rfl (fun _ _ _ h => h)) ?_
                    intro ρ S w1 hc hB hS hI
                    have h126 : ρ (.tmp 126) = .pointer (some ⟨bx, 0, none⟩) := And.left hI
                    clear hI; have HB := Lib.hid hB; have HS := Lib.hid hS; clear hB hS
                    have hcl := (HX.out.later HB.out).cell 0 (v := .slice (some ⟨bq, oq, none⟩) q.length cp) rfl
                    refine Upd.hide fun R1 hR1 => ?_
                    go_simp
                    exact Upd.ok (hR1 _ _ ⟨Below.refl _ _, rfl⟩)
                  · refine OpOk.grow rfl (GuardYes.some rfl (fun _ _ _ h => h)) ?_
                    intro ρ S w1 hc hB hS hI
                    have h17 : ρ (.tmp 17) = .int .i64 (j : Int) := And.left hI
                    clear hI; have HB := Lib.hid hB; have HS := Lib.hid hS; clear hB hS
                    exact Upd.of (ex_move rfl) ⟨Below.refl _ _, h17⟩
                  · refine OpOk.grow rfl (GuardYes.some rfl (fun _ _ _ h => h)) ?_
                    intro ρ S w1 hc hB hS hI
                    have h127 : ρ (.tmp 127) = .slice (some ⟨bq, oq, none⟩) q.length cp := And.left hI
                    have h128 : ρ (.tmp 128) = .int .i64 (j : Int) := And.left (And.right hI)
                    clear hI; have HB := Lib.hid hB; have HS := Lib.hid hS; clear hB hS
                    refine Upd.hide fun R1 hR1 => ?_
                    go_simp
                    exact Upd.ok (hR1 _ _ ⟨Below.refl _ _, rfl⟩)
                  · refine OpOk.grow rfl (GuardYes.some rfl (fun _ _ _ h => h)) ?_
                    intro ρ S w1 hc hB hS hI
                    have h129 : ρ (.tmp 129) = .pointer (some ⟨bq, oq + j, none⟩) := And.left hI
                    clear hI; have HB := Lib.hid hB; have HS := Lib.hid hS; clear hB hS
                    have hcl : w1.cell? ⟨bq, oq + j, none⟩ = some (.int .u64 a) := ((HB.out).cell (p := ⟨bq, oq + j, none⟩) HBQ.out).trans HCQ.out
                    refine Upd.hide fun R1 hR1 => ?_
                    go_simp
                    exact Upd.ok (hR1 _ _ ⟨Below.refl _ _, rfl⟩)
                  · refine OpOk.grow rfl (GuardYes.some rfl (fun _ _ _ h => h)) ?_
                    intro ρ S w1 hc hB hS hI
                    have h12 : ρ (.tmp 12) = .slice (some ⟨bp, op, none⟩) q.length c := And.left hI
                    clear hI; have HB := Lib.hid hB; have HS := Lib.hid hS; clear hB hS
                    exact Upd.of (ex_move rfl) ⟨Below.refl _ _, h12⟩
                  · refine OpOk.grow rfl (GuardYes.some rfl (fun _ _ _ h => h)) ?_
                    intro ρ S w1 hc hB hS hI
                    have h17 : ρ (.tmp 17) = .int .i64 (j : Int) := And.left hI
                    clear hI; have HB := Lib.hid hB; have HS := Lib.hid hS; clear hB hS
                    exact Upd.of (ex_move rfl) ⟨Below.refl _ _, h17⟩
                  · refine OpOk.grow rfl (GuardYes.some rfl (fun _ _ _ h => h)) ?_
                    intro ρ S w1 hc hB hS hI
                    have h131 : ρ (.tmp 131) = .slice (some ⟨bp, op, none⟩) q.length c := And.left hI
                    have h132 : ρ (.tmp 132) = .int .i64 (j : Int) := And.left (And.right hI)
                    clear hI; have HB := Lib.hid hB; have HS := Lib.hid hS; clear hB hS
                    refine Upd.hide fun R1 hR1 => ?_
                    go_simp
                    exact Upd.ok (hR1 _ _ ⟨Below.refl _ _, rfl⟩)
                  · refine OpOk.grow rfl (GuardYes.some rfl (fun _ _ _ h => h)) ?_
                    intro ρ S w1 hc hB hS hI
                    have h133 : ρ (.tmp 133) = .pointer (some ⟨bp, op + j, none⟩) := And.left hI
                    clear hI; have HB := Lib.hid hB; have HS := Lib.hid hS; clear hB hS
                    have hcl : w1.cell? ⟨bp, op + j, none⟩ = some (.int .u64 b) := ((HB.out).cell (p := ⟨bp, op + j, none⟩) HBP.out).trans HCP.out
                    refine Upd.hide fun R1 hR1 => ?_
                    go_simp
                    exact Upd.ok (hR1 _ _ ⟨Below.refl _ _, rfl⟩)
                  · refine OpOk.grow rfl (GuardYes.some rfl (fun _ _ _ h => h)) ?_
                    intro ρ S w1 hc hB hS hI
                    have h130 : ρ (.tmp 130) = .int .u64 a := And.left hI
                    have h134 : ρ (.tmp 134) = .int .u64 b := And.left (And.right hI)
                    clear hI; have HB := Lib.hid hB; have HS := Lib.hid hS; clear hB hS
                    have hx := HAB.out
                    refine Upd.hide fun R1 hR1 => ?_
                    go_simp
                    exact Upd.ok (hR1 _ _ ⟨Below.refl _ _, by first | rfl | simp | simp [hx]⟩)
                  · refine OpOk.grow rfl (GuardYes.none rfl) ?_
                    intro ρ S w1 hc hB hS hI
                    have h125 : ρ (.tmp 125) = .bool false := And.left hI
                    have h135 : ρ (.tmp 135) = .bool true := And.left (And.right hI)
                    have hc1 := hc.const; have hc2 := hc.func
                    clear hI; have HB := Lib.hid hB; have HS := Lib.hid hS; clear hB hS
                    exact Upd.of (ex_pick rfl h125) ⟨Below.refl _ _, h135⟩
                  · refine OpOk.grow rfl (GuardYes.none rfl) ?_
                    intro ρ S w1 hc hB hS hI
                    have h136 : ρ (.tmp 136) = .bool true := And.left hI
                    clear hI; have HB := Lib.hid hB; have HS := Lib.hid hS; clear hB hS
                    exact Upd.of (ex_move rfl) ⟨Below.refl _ _, h136⟩
                  · refine OpOk.grow rfl (GuardYes.some rfl (fun _ _ _ h => h)) ?_
                    intro ρ S w1 hc hB hS hI
                    have h18 : ρ (.tmp 18) = .int .u64 A := And.left hI
                    clear hI; have HB := Lib.hid hB; have HS := Lib.hid hS; clear hB hS
                    exact Upd.of (ex_move rfl) ⟨Below.refl _ _, h18⟩
                  · refine OpOk.grow rfl (GuardYes.some rfl (fun _ _ _ h => h)) ?_
                    intro ρ S w1 hc hB hS hI
                    have h19 : ρ (.tmp 19) = .int .u64 B := And.left hI
                    clear hI; have HB := Lib.hid hB; have HS := Lib.hid hS; clear hB hS
                    exact Upd.of (ex_move rfl) ⟨Below.refl _ _, h19⟩
                  · refine OpOk.grow rfl (GuardYes.some rfl (fun _ _ _ h => h)) ?_
                    intro ρ S w1 hc hB hS hI
                    have h138 : ρ (.tmp 138) = .int .u64 A := And.left hI
                    have h139 : ρ (.tmp 139) = .int .u64 B := And.left (And.right hI)
                    clear hI; have HB := Lib.hid hB; have HS := Lib.hid hS; clear hB hS
                    refine Upd.hide fun R1 hR1 => ?_
                    go_simp
                    exact Upd.ok (hR1 _ _ ⟨Below.refl _ _, rfl⟩)
                  · refine OpOk.grow rfl (GuardYes.none rfl) ?_
                    intro ρ S w1 hc hB hS hI
                    have h137 : ρ (.tmp 137) = .bool true := And.left hI
                    have h140 : ρ (.tmp 140) = .bool (A == B) := And.left (And.right hI)
                    have hc1 := hc.const; have hc2 := hc.func
                    clear hI; have HB := Lib.hid hB; have HS := Lib.hid hS; clear hB hS
                    exact Upd.of (ex_pick rfl h137) ⟨Below.refl _ _, h140⟩
                · intro env5 Sr5 wr5 hB5 hSr5 hF5
                  have f0 : env5 0 = .int .u64 g := hF5 0 (by decide) rfl
                  have f1 : env5 1 = .int .u64 h := hF5 1 (by decide) rfl
                  have f2 : env5 2 = .bool false := hF5 2 (by decide) rfl
                  have f3 : env5 3 = .bool false := hF5 3 (by decide) rfl
                  have f4 : env5 4 = .pointer (some ⟨bx, 0, none⟩) := hF5 4 (by decide) rfl
                  have f5 : env5 5 = .slice (some ⟨bq, oq, none⟩) q.length cp := hF5 5 (by decide) rfl
                  have f6 : env5 6 = .int .i64 (j : Int) := hF5 6 (by decide) rfl
                  have f7 : env5 7 = .pointer (some ⟨bq, oq + j, none⟩) := hF5 7 (by decide) rfl
                  have f8 : env5 8 = .int .u64 a := hF5 8 (by decide) rfl
                  have f9 : env5 9 = .slice (some ⟨bp, op, none⟩) q.length c := hF5 9 (by decide) rfl
                  have f10 : env5 10 = .int .i64 (j : Int) := hF5 10 (by decide) rfl
                  have f11 : env5 11 = .pointer (some ⟨bp, op + j, none⟩) := hF5 11 (by decide) rfl
                  have f12 : env5 12 = .int .u64 b := hF5 12 (by decide) rfl
                  have f13 : env5 13 = .bool true := hF5 13 (by decide) rfl
                  have f14 : env5 14 = .bool true := hF5 14 (by decide) rfl
                  have f15 : env5 15 = .bool true := hF5 15 (by decide) rfl
                  have f16 : env5 16 = .int .u64 A := hF5 16 (by decide) rfl
                  have f17 : env5 17 = .int .u64 B := hF5 17 (by decide) rfl
                  have f18 : env5 18 = .bool (A == B) := hF5 18 (by decide) rfl
                  have f19 : env5 19 = .bool (A == B) := hF5 19 (by decide) rfl
                  clear hF5
                  simp only [List.take_succ_cons, List.take_nil, List.drop_nil, List.drop_succ_cons, putAll, Act.put, List.setIfInBounds_toArray, List.set_cons_succ, List.set_cons_zero, Nat.reduceAdd, f0, f1, f2, f3, f4, f5, f6, f7, f8, f9, f10, f11, f12, f13, f14, f15, f16, f17, f18, f19]
                  clear f0 f1 f2 f3 f4 f5 f6 f7 f8 f9 f10 f11 f12 f13 f14 f15 f16 f17 f18 f19
                  refine wpList_nil ?_
                  have HCQ := Lib.hid ((hB5.cell (p := ⟨bq, oq + j, none⟩) HBQ.out).trans HCQ.out)
                  have HBQ := Lib.hid (Nat.lt_of_lt_of_le HBQ.out hB5.size)
                  have HCP := Lib.hid ((hB5.cell (p := ⟨bp, op + j, none⟩) HBP.out).trans HCP.out)
                  have HBP := Lib.hid (Nat.lt_of_lt_of_le HBP.out hB5.size)
                  have HCS := Lib.hid ((hB5.cell (p := ⟨bs, os + j, none⟩) HBS.out).trans HCS.out)
                  have HBS := Lib.hid (Nat.lt_of_lt_of_le HBS.out hB5.size)
                  have HX := Lib.hid (HX.out.later hB5)
                  have HWR := Lib.hid (HWR.out.trans (hB5.mono HWR.out.size))
                  clear hB5 hSr5
                  by_cases hAB : A = B
                  · have e6 : (A == B) = true := beq_iff_eq.2 hAB
                    go_wp2
                    go_ret
                    exact ⟨rfl, HW.out.trans (HWR.out.mono HW.out.size)⟩
                  · have e6 : (A == B) = false := beq_eq_false_iff_ne.2 hAB
                    have HAN := Lib.hid hAB
                    clear hAB
                    go_upto_region 21 with (fail)
                    refine wp_region_table 14 [RKnown (.bool true) [(16, none)],
                      RKnown (.bool true) [(143, some 0)],
                      RKnown (.pointer (some ⟨bx, 0, none⟩)) [(11, none)],
                      RKnown (.slice (some ⟨bq, oq, none⟩) q.length cp) [(145, some 2)],
                      RKnown (.int .i64 (j : Int)) [(17, none)],
                      RKnown (.pointer (some ⟨bq, oq + j, none⟩)) [(146, some 3), (147, some 4)],
                      RKnown (.int .u64 a) [(148, some 5)],
                      RKnown (.slice (some ⟨bp, op, none⟩) q.length c) [(12, none)],
                      RKnown (.int .i64 (j : Int)) [(17, none)],
                      RKnown (.pointer (some ⟨bp, op + j, none⟩)) [(150, some 7), (151, some 8)],
                      RKnown (.int .u64 b) [(152, some 9)],
                      RKnown (.bool (a == b)) [(149, some 6), (153, some 10)],
                      RKnown (.bool (a == b)) [(144, some 1), (154, some 11)],
                      RKnown (.bool (a == b)) [(155, some 12)]] (by kernel_rfl) (by kernel_rfl) (by kernel_rfl) ?_ ?_
                    · refine ⟨?_, ?_, ?_, ?_, ?_, ?_, ?_, ?_, ?_, ?_, ?_, ?_, ?_, ?_, trivial⟩
                      · refine OpOk.grow rfl (GuardYes.none rfl) ?_
                        intro ρ S w1 hc hB hS hI
                        have h16 : ρ (.tmp 16) = .bool true := And.left hI
                        clear hI; have HB := Lib.hid hB; have HS := Lib.hid hS; clear hB hS
                        exact Upd.of (ex_move rfl) ⟨Below.refl _ _, h16⟩
                      · refine OpOk.grow rfl (GuardYes.none rfl) ?_
                        intro ρ S w1 hc hB hS hI
                        have h143 : ρ (.tmp 143) = .bool true := And.left hI
                        clear hI; have HB := Lib.hid hB; have HS := Lib.hid hS; clear hB hS
                        exact Upd.of (ex_move rfl) ⟨Below.refl _ _, h143⟩
                      · refine OpOk.grow rfl (GuardYes.some rfl (fun _ _ _ h => h)) ?_
                        intro ρ S w1 hc hB hS hI
                        have h11 : ρ (.tmp 11) = .pointer (some ⟨bx, 0, none⟩) := And.left hI
                        clear hI; have HB := Lib.hid hB; have HS := Lib.hid hS; clear hB hS
                        refine Upd.hide fun R1 hR1 => ?_
                        go_simp
                        exact Upd.ok (hR1 _ _ ⟨Below.refl _ _, rfl⟩)
                      · refine OpOk.grow rfl (GuardYes.some rfl (fun _ _ _ h => h)) ?_
                        intro ρ S w1 hc hB hS hI
                        have h145 : ρ (.tmp 145) = .pointer (some ⟨bx, 0, none⟩) := And.left hI
                        clear hI; have HB := Lib.hid hB; have HS := Lib.hid hS; clear hB hS
                        have hcl := (HX.out.later HB.out).cell 0 (v := .slice (some ⟨bq, oq, none⟩) q.length cp) rfl
                        refine Upd.hide fun R1 hR1 => ?_
                        go_simp
                        exact Upd.ok (hR1 _ _ ⟨Below.refl _ _, rfl⟩)
                      · refine OpOk.grow rfl (GuardYes.some rfl (fun _ _ _ h => h)) ?_
                        intro ρ S w1 hc hB hS hI
                        have h17 : ρ (.tmp 17) = .int .i64 (j : Int) := And.left hI
                        clear hI; have HB := Lib.hid hB; have HS := Lib.hid hS; clear hB hS
                        exact Upd.of (ex_move rfl) ⟨Below.refl _ _, h17⟩
                      · refine OpOk.grow rfl (GuardYes.some rfl (fun _ _ _ h => h)) ?_
                        intro ρ S w1 hc hB hS hI
                        have h146 : ρ (.tmp 146) = .slice (some ⟨bq, oq, none⟩) q.length cp := And.left hI
                        have h147 : ρ (.tmp 147) = .int .i64 (j : Int) := And.left (And.right hI)
                        clear hI; have HB := Lib.hid hB; have HS := Lib.hid hS; clear hB hS
                        refine Upd.hide fun R1 hR1 => ?_
                        go_simp
                        exact Upd.ok (hR1 _ _ ⟨Below.refl _ _, rfl⟩)
                      · refine OpOk.grow rfl (GuardYes.some rfl (fun _ _ _ h => h)) ?_
                        intro ρ S w1 hc hB hS hI
                        have h148 : ρ (.tmp 148) = .pointer (some ⟨bq, oq + j, none⟩) := And.left hI
                        clear hI; have HB := Lib.hid hB; have HS := Lib.hid hS; clear hB hS
                        have hcl : w1.cell? ⟨bq, oq + j, none⟩ = some (.int .u64 a) := ((HB.out).cell (p := ⟨bq, oq + j, none⟩) HBQ.out).trans HCQ.out
                        refine Upd.hide fun R1 hR1 => ?_
                        go_simp
                        exact Upd.ok (hR1 _ _ ⟨Below.refl _ _, rfl⟩)
                      · refine OpOk.grow rfl (GuardYes.some rfl (fun _ _ _ h => h)) ?_
                        intro ρ S w1 hc hB hS hI
                        have h12 : ρ (.tmp 12) = .slice (some ⟨bp, op, none⟩) q.length c := And.left hI
                        clear hI; have HB := Lib.hid hB; have HS := Lib.hid hS; clear hB hS
                        exact Upd.of (ex_move rfl) ⟨Below.refl _ _, h12⟩
                      · refine OpOk.grow rfl (GuardYes.some rfl (fun _ _ _ h => h)) ?_
                        intro ρ S w1 hc hB hS hI
                        have h17 : ρ (.tmp 17) = .int .i64 (j : Int) := And.left hI
                        clear hI; have HB := Lib.hid hB; have HS := Lib.hid hS; clear hB hS
                        exact Upd.of (ex_move rfl) ⟨Below.refl _ _, h17⟩
                      · refine OpOk.grow rfl (GuardYes.some rfl (fun _ _ _ h => h)) ?_
                        intro ρ S w1 hc hB hS hI
                        have h150 : ρ (.tmp 150) = .slice (some ⟨bp, op, none⟩) q.length c := And.left hI
                        have h151 : ρ (.tmp 151) = .int .i64 (j : Int) := And.left (And.right hI)
                        clear hI; have HB := Lib.hid hB; have HS := Lib.hid hS; clear hB hS
                        refine Upd.hide fun R1 hR1 => ?_
                        go_simp
                        exact Upd.ok (hR1 _ _ ⟨Below.refl _ _, rfl⟩)
                      · refine OpOk.grow rfl (GuardYes.some rfl (fun _ _ _ h => h)) ?_
                        intro ρ S w1 hc hB hS hI
                        have h152 : ρ (.tmp 152) = .pointer (some ⟨bp, op + j, none⟩) := And.left hI
                        clear hI; have HB := Lib.hid hB; have HS := Lib.hid hS; clear hB hS
                        have hcl : w1.cell? ⟨bp, op + j, none⟩ = some (.int .u64 b) := ((HB.out).cell (p := ⟨bp, op + j, none⟩) HBP.out).trans HCP.out
                        refine Upd.hide fun R1 hR1 => ?_
                        go_simp
                        exact Upd.ok (hR1 _ _ ⟨Below.refl _ _, rfl⟩)
                      · refine OpOk.grow rfl (GuardYes.some rfl (fun _ _ _ h => h)) ?_
                        intro ρ S w1 hc hB hS hI
                        have h149 : ρ (.tmp 149) = .int .u64 a := And.left hI
                        have h153 : ρ (.tmp 153) = .int .u64 b := And.left (And.right hI)
                        clear hI; have HB := Lib.hid hB; have HS := Lib.hid hS; clear hB hS
                        refine Upd.hide fun R1 hR1 => ?_
                        go_simp
                        exact Upd.ok (hR1 _ _ ⟨Below.refl _ _, rfl⟩)
                      · refine OpOk.grow rfl (GuardYes.none rfl) ?_
                        intro ρ S w1 hc hB hS hI
                        have h144 : ρ (.tmp 144) = .bool true := And.left hI
                        have h154 : ρ (.tmp 154) = .bool (a == b) := And.left (And.right hI)
                        have hc1 := hc.const; have hc2 := hc.func
                        clear hI; have HB := Lib.hid hB; have HS := Lib.hid hS; clear hB hS
                        exact Upd.of (ex_pick rfl h144) ⟨Below.refl _ _, h154⟩
                      · refine OpOk.grow rfl (GuardYes.none rfl) ?_
                        intro ρ S w1 hc hB hS hI
                        have h155 : ρ (.tmp 155) = .bool (a == b) := And.left hI
                        clear hI; have HB := Lib.hid hB; have HS := Lib.hid hS; clear hB hS
                        exact Upd.of (ex_assign rfl) ⟨Below.refl _ _, h155⟩
                    · intro env5b Sr5b wr5b hB5b hSr5b hF5b
                      have f0 : env5b 0 = .bool true := hF5b 0 (by decide) rfl
                      have f1 : env5b 1 = .bool true := hF5b 1 (by decide) rfl
                      have f2 : env5b 2 = .pointer (some ⟨bx, 0, none⟩) := hF5b 2 (by decide) rfl
                      have f3 : env5b 3 = .slice (some ⟨bq, oq, none⟩) q.length cp := hF5b 3 (by decide) rfl
                      have f4 : env5b 4 = .int .i64 (j : Int) := hF5b 4 (by decide) rfl
                      have f5 : env5b 5 = .pointer (some ⟨bq, oq + j, none⟩) := hF5b 5 (by decide) rfl
                      have f6 : env5b 6 = .int .u64 a := hF5b 6 (by decide) rfl
                      have f7 : env5b 7 = .slice (some ⟨bp, op, none⟩) q.length c := hF5b 7 (by decide) rfl
                      have f8 : env5b 8 = .int .i64 (j : Int) := hF5b 8 (by decide) rfl
                      have f9 : env5b 9 = .pointer (some ⟨bp, op + j, none⟩) := hF5b 9 (by decide) rfl
                      have f10 : env5b 10 = .int .u64 b := hF5b 10 (by decide) rfl
                      have f11 : env5b 11 = .bool (a == b) := hF5b 11 (by decide) rfl
                      have f12 : env5b 12 = .bool (a == b) := hF5b 12 (by decide) rfl
                      have f13 : env5b 13 = .bool (a == b) := hF5b 13 (by decide) rfl
                      clear hF5b
                      simp only [List.take_succ_cons, List.take_nil, List.drop_nil, List.drop_succ_cons, putAll, Act.put, List.setIfInBounds_toArray, List.set_cons_succ, List.set_cons_zero, Nat.reduceAdd, f0, f1, f2, f3, f4, f5, f6, f7, f8, f9, f10, f11, f12, f13]
                      clear f0 f1 f2 f3 f4 f5 f6 f7 f8 f9 f10 f11 f12 f13
                      refine wpList_nil ?_
                      have HCQ := Lib.hid ((hB5b.cell (p := ⟨bq, oq + j, none⟩) HBQ.out).trans HCQ.out)
                      have HBQ := Lib.hid (Nat.lt_of_lt_of_le HBQ.out hB5b.size)
                      have HCP := Lib.hid ((hB5b.cell (p := ⟨bp, op + j, none⟩) HBP.out).trans HCP.out)
                      have HBP := Lib.hid (Nat.lt_of_lt_of_le HBP.out hB5b.size)
                      have HCS := Lib.hid ((hB5b.cell (p := ⟨bs, os + j, none⟩) HBS.out).trans HCS.out)
                      have HBS := Lib.hid (Nat.lt_of_lt_of_le HBS.out hB5b.size)
                      have HX := Lib.hid (HX.out.later hB5b)
                      have HWR := Lib.hid (HWR.out.trans (hB5b.mono HWR.out.size))
                      clear hB5b hSr5b
                      go_wp2
                      go_roundw
                      case rel => exact ⟨j + 1, A, B, (a == b), rfl, rfl, rfl, by go_num, by omega, HG.out.symm, HH.out.symm, (fun _ => HAN.out), HWR.out⟩
                      case measure => simp [intOf]; omega
            · have HGH : Hid ((g != h) = true) := bne_iff_ne.2 hgh
              clear hgh HNE
              cases e with
              | true =>
                refine wp_region_table 20 [RKnown (.int .u64 g) [(14, none)],
                  RKnown (.int .u64 h) [(15, none)],
                  RKnown (.bool true) [(122, some 0), (123, some 1)],
                  RKnown (.bool true) [(124, some 2)],
                  RSkip,
                  RSkip,
                  RSkip,
                  RSkip,
                  RSkip,
                  RSkip,
                  RSkip,
                  RSkip,
                  RSkip,
                  RSkip,
                  RKnown (.bool true) [(125, some 3), (135, some 13)],
                  RKnown (.bool true) [(136, some 14)],
                  RKnown (.int .u64 A) [(18, none)],
                  RKnown (.int .u64 B) [(19, none)],
                  RKnown (.bool (A == B)) [(138, some 16), (139, some 17)],
                  RKnown (.bool (A == B)) [(137, some 15), (140, some 18)]] (by kernel_rfl) (by kernel_rfl) (by kernel_rfl) ?_ ?_
                · refine ⟨?_, ?_, ?_, ?_, ?_, ?_, ?_, ?_, ?_, ?_, ?_, ?_, ?_, ?_, ?_, ?_, ?_, ?_, ?_, ?_, trivial⟩
                  · refine OpOk.grow rfl (GuardYes.none rfl) ?_
                    intro ρ S w1 hc hB hS hI
                    have h14 : ρ (.tmp 14) = .int .u64 g := And.left hI
                    clear hI; have HB := Lib.hid hB; have HS := Lib.hid hS; clear hB hS
                    exact Upd.of (ex_move rfl) ⟨Below.refl _ _, h14⟩
                  · refine OpOk.grow rfl (GuardYes.none rfl) ?_
                    intro ρ S w1 hc hB hS hI
                    have h15 : ρ (.tmp 15) = .int .u64 h := And.left hI
                    clear hI; have HB := Lib.hid hB; have HS := Lib.hid hS; clear hB hS
                    exact Upd.of (ex_move rfl) ⟨Below.refl _ _, h15⟩
                  · refine OpOk.grow rfl (GuardYes.none rfl) ?_
                    intro ρ S w1 hc hB hS hI
                    have h122 : ρ (.tmp 122) = .int .u64 g := And.left hI
                    have h123 : ρ (.tmp 123) = .int .u64 h := And.left (And.right hI)
                    clear hI; have HB := Lib.hid hB; have HS := Lib.hid hS; clear hB hS
                    have hx := HGH.out
                    refine Upd.hide fun R1 hR1 => ?_
                    go_simp
                    exact Upd.ok (hR1 _ _ ⟨Below.refl _ _, by first | rfl | simp | simp [hx]⟩)
                  · refine OpOk.grow rfl (GuardYes.none rfl) ?_
                    intro ρ S w1 hc hB hS hI
                    have h124 : ρ (.tmp 124) = .bool true := And.left hI
                    clear hI; have HB := Lib.hid hB; have HS := Lib.hid hS; clear hB hS
                    exact Upd.of (ex_move rfl) ⟨Below.refl _ _, h124⟩
                  · exact OpOk.skip rfl (GuardNo.some rfl (fun _ _ _ h => .inl h)) (fun _ _ => rfl)
                  · exact OpOk.skip rfl (GuardNo.some rfl (fun _ _ _ h => .inl h)) (fun _ _ => rfl)
                  · exact OpOk.skip rfl (GuardNo.some rfl (fun _ _ _ h => .inl h)) (fun _ _ => rfl)
                  · exact OpOk.skip rfl (GuardNo.some rfl (fun _ _ _ h => .inl h)) (fun _ _ => rfl)
                  · exact OpOk.skip rfl (GuardNo.some rfl (fun _ _ _ h => .inl h)) (fun _ _ => rfl)
                  · exact OpOk.skip rfl (GuardNo.some rfl (fun _ _ _ h => .inl h)) (fun _ _ => rfl)
                  · exact OpOk.skip rfl (GuardNo.some rfl (fun _ _ _ h => .inl h)) (fun _ _ => rfl)
                  · exact OpOk.skip rfl (GuardNo.some rfl (fun _ _ _ h => .inl h)) (fun _ _ => rfl)
                  · exact OpOk.skip rfl (GuardNo.some rfl (fun _ _ _ h => .inl h)) (fun _ _ => rfl)
                  · exact OpOk.skip rfl (GuardNo.some rfl (fun _ _ _ h => .inl h)) (fun _ _ => rfl)
                  · refine OpOk.grow rfl (GuardYes.none rfl) ?_
                    intro ρ S w1 hc hB hS hI
                    have h125 : ρ (.tmp 125) = .bool true := And.left hI
                    have h135 : ρ (.tmp 135) = undef := And.left (And.right hI)
                    have hc1 := hc.const; have hc2 := hc.func
                    clear hI; have HB := Lib.hid hB; have HS := Lib.hid hS; clear hB hS
                    exact Upd.of (ex_pick rfl h125) ⟨Below.refl _ _, hc1 _⟩
                  · refine OpOk.grow rfl (GuardYes.none rfl) ?_
                    intro ρ S w1 hc hB hS hI
                    have h136 : ρ (.tmp 136) = .bool true := And.left hI
                    clear hI; have HB := Lib.hid hB; have HS := Lib.hid hS; clear hB hS
                    exact Upd.of (ex_move rfl) ⟨Below.refl _ _, h136⟩
                  · refine OpOk.grow rfl (GuardYes.some rfl (fun _ _ _ h => h)) ?_
                    intro ρ S w1 hc hB hS hI
                    have h18 : ρ (.tmp 18) = .int .u64 A := And.left hI
                    clear hI; have HB := Lib.hid hB; have HS := Lib.hid hS; clear hB hS
                    exact Upd.of (ex_move rfl) ⟨Below.refl _ _, h18⟩
                  · refine OpOk.grow rfl (GuardYes.some rfl (fun _ _ _ h => h)) ?_
                    intro ρ S w1 hc hB hS hI
                    have h19 : ρ (.tmp 19) = .int .u64 B := And.left hI
                    clear hI; have HB := Lib.hid hB; have HS := Lib.hid hS; clear hB hS
                    exact Upd.of (ex_move rfl) ⟨Below.refl _ _, h19⟩
                  · refine OpOk.grow rfl (GuardYes.some rfl (fun _ _ _ h => h)) ?_
                    intro ρ S w1 hc hB hS hI
                    have h138 : ρ (.tmp 138) = .int .u64 A := And.left hI
                    have h139 : ρ (.tmp 139) = .int .u64 B := And.left (And.right hI)
                    clear hI; have HB := Lib.hid hB; have HS := Lib.hid hS; clear hB hS
                    refine Upd.hide fun R1 hR1 => ?_
                    go_simp
                    exact Upd.ok (hR1 _ _ ⟨Below.refl _ _, rfl⟩)
                  · refine OpOk.grow rfl (GuardYes.none rfl) ?_
                    intro ρ S w1 hc hB hS hI
                    have h137 : ρ (.tmp 137) = .bool true := And.left hI
                    have h140 : ρ (.tmp 140) = .bool (A == B) := And.left (And.right hI)
                    have hc1 := hc.const; have hc2 := hc.func
                    clear hI; have HB := Lib.hid hB; have HS := Lib.hid hS; clear hB hS
                    exact Upd.of (ex_pick rfl h137) ⟨Below.refl _ _, h140⟩
                · intro env3 Sr3 wr3 hB3 hSr3 hF3
                  have f0 : env3 0 = .int .u64 g := hF3 0 (by decide) rfl
                  have f1 : env3 1 = .int .u64 h := hF3 1 (by decide) rfl
                  have f2 : env3 2 = .bool true := hF3 2 (by decide) rfl
                  have f3 : env3 3 = .bool true := hF3 3 (by decide) rfl
                  have f4 : env3 4 = undef := hF3 4 (by decide) rfl
                  have f5 : env3 5 = undef := hF3 5 (by decide) rfl
                  have f6 : env3 6 = undef := hF3 6 (by decide) rfl
                  have f7 : env3 7 = undef := hF3 7 (by decide) rfl
                  have f8 : env3 8 = undef := hF3 8 (by decide) rfl
                  have f9 : env3 9 = undef := hF3 9 (by decide) rfl
                  have f10 : env3 10 = undef := hF3 10 (by decide) rfl
                  have f11 : env3 11 = undef := hF3 11 (by decide) rfl
                  have f12 : env3 12 = undef := hF3 12 (by decide) rfl
                  have f13 : env3 13 = undef := hF3 13 (by decide) rfl
                  have f14 : env3 14 = .bool true := hF3 14 (by decide) rfl
                  have f15 : env3 15 = .bool true := hF3 15 (by decide) rfl
                  have f16 : env3 16 = .int .u64 A := hF3 16 (by decide) rfl
                  have f17 : env3 17 = .int .u64 B := hF3 17 (by decide) rfl
                  have f18 : env3 18 = .bool (A == B) := hF3 18 (by decide) rfl
                  have f19 : env3 19 = .bool (A == B) := hF3 19 (by decide) rfl
                  clear hF3
                  simp only [List.take_succ_cons, List.take_nil, List.drop_nil, List.drop_succ_cons, putAll, Act.put, List.setIfInBounds_toArray, List.set_cons_succ, List.set_cons_zero, Nat.reduceAdd, f0, f1, f2, f3, f4, f5, f6, f7, f8, f9, f10, f11, f12, f13, f14, f15, f16, f17, f18, f19]
                  clear f0 f1 f2 f3 f4 f5 f6 f7 f8 f9 f10 f11 f12 f13 f14 f15 f16 f17 f18 f19
                  refine wpList_nil ?_
                  have HCQ := Lib.hid ((hB3.cell (p := ⟨bq, oq + j, none⟩) HBQ.out).trans HCQ.out)
                  have HBQ := Lib.hid (Nat.lt_of_lt_of_le HBQ.out hB3.size)
                  have HCP := Lib.hid ((hB3.cell (p := ⟨bp, op + j, none⟩) HBP.out).trans HCP.out)
                  have HBP := Lib.hid (Nat.lt_of_lt_of_le HBP.out hB3.size)
                  have HCS := Lib.hid ((hB3.cell (p := ⟨bs, os + j, none⟩) HBS.out).trans HCS.out)
                  have HBS := Lib.hid (Nat.lt_of_lt_of_le HBS.out hB3.size)
                  have HX := Lib.hid (HX.out.later hB3)
                  have HWR := Lib.hid (HWR.out.trans (hB3.mono HWR.out.size))
                  clear hB3 hSr3
                  by_cases hAB : A = B
                  · have e6 : (A == B) = true := beq_iff_eq.2 hAB
                    go_wp2
                    go_ret
                    exact ⟨rfl, HW.out.trans (HWR.out.mono HW.out.size)⟩
                  · have e6 : (A == B) = false := beq_eq_false_iff_ne.2 hAB
                    have HAN := Lib.hid hAB
                    clear hAB
                    go_upto_region 21 with (fail)
                    refine wp_region_table 14 [RKnown (.bool true) [(16, none)],
                      RKnown (.bool true) [(143, some 0)],
                      RKnown (.pointer (some ⟨bx, 0, none⟩)) [(11, none)],
                      RKnown (.slice (some ⟨bq, oq, none⟩) q.length cp) [(145, some 2)],
                      RKnown (.int .i64 (j : Int)) [(17, none)],
                      RKnown (.pointer (some ⟨bq, oq + j, none⟩)) [(146, some 3), (147, some 4)],
                      RKnown (.int .u64 a) [(148, some 5)],
                      RKnown (.slice (some ⟨bp, op, none⟩) q.length c) [(12, none)],
                      RKnown (.int .i64 (j : Int)) [(17, none)],
                      RKnown (.pointer (some ⟨bp, op + j, none⟩)) [(150, some 7), (151, some 8)],
                      RKnown (.int .u64 b) [(152, some 9)],
                      RKnown (.bool (a == b)) [(149, some 6), (153, some 10)],
                      RKnown (.bool (a == b)) [(144, some 1), (154, some 11)],
                      RKnown (.bool (a == b)) [(155, some 12)]] (by kernel_rfl) (by kernel_rfl) (by kernel_rfl) ?_ ?_
                    · refine ⟨?_, ?_, ?_, ?_, ?_, ?_, ?_, ?_, ?_, ?_, ?_, ?_, ?_, ?_, trivial⟩
                      · refine OpOk.grow rfl (GuardYes.none rfl) ?_
                        intro ρ S w1 hc hB hS hI
                        have h16 : ρ (.tmp 16) = .bool true := And.left hI
                        clear hI; have HB := Lib.hid hB; have HS := Lib.hid hS; clear hB hS
                        exact Upd.of (ex_move rfl) ⟨Below.refl _ _, h16⟩
                      · refine OpOk.grow rfl (GuardYes.none rfl) ?_
                        intro ρ S w1 hc hB hS hI
                        have h143 : ρ (.tmp 143) = .bool true := And.left hI
                        clear hI; have HB := Lib.hid hB; have HS := Lib.hid hS; clear hB hS
                        exact Upd.of (ex_move rfl) ⟨Below.refl _ _, h143⟩
                      · refine OpOk.grow rfl (GuardYes.some rfl (fun _ _ _ h => h)) ?_
                        intro ρ S w1 hc hB hS hI
                        have h11 : ρ (.tmp 11) = .pointer (some ⟨bx, 0, none⟩) := And.left hI
                        clear hI; have HB := Lib.hid hB; have HS := Lib.hid hS; clear hB hS
                        refine Upd.hide fun R1 hR1 => ?_
                        go_simp
                        exact Upd.ok (hR1 _ _ ⟨Below.refl _ _, rfl⟩)
                      · refine OpOk.grow rfl (GuardYes.some rfl (fun _ _ _ h => h)) ?_
                        intro ρ S w1 hc hB hS hI
                        have h145 : ρ (.tmp 145) = .pointer (some ⟨bx, 0, none⟩) := And.left hI
                        clear hI; have HB := Lib.hid hB; have HS := Lib.hid hS; clear hB hS
                        have hcl := (HX.out.later HB.out).cell 0 (v := .slice (some ⟨bq, oq, none⟩) q.length cp) rfl
                        refine Upd.hide fun R1 hR1 => ?_
                        go_simp
                        exact Upd.ok (hR1 _ _ ⟨Below.refl _ _, rfl⟩)
                      · refine OpOk.grow rfl (GuardYes.some rfl (fun _ _ _ h => h)) ?_
                        intro ρ S w1 hc hB hS hI
                        have h17 : ρ (.tmp 17) = .int .i64 (j : Int) := And.left hI
                        clear hI; have HB := Lib.hid hB; have HS := Lib.hid hS; clear hB hS
                        exact Upd.of (ex_move rfl) ⟨Below.refl _ _, h17⟩
                      · refine OpOk.grow rfl (GuardYes.some rfl (fun _ _ _ h => h)) ?_
                        intro ρ S w1 hc hB hS hI
                        have h146 : ρ (.tmp 146) = .slice (some ⟨bq, oq, none⟩) q.length cp := And.left hI
                        have h147 : ρ (.tmp 147) = .int .i64 (j : Int) := And.left (And.right hI)
                        clear hI; have HB := Lib.hid hB; have HS := Lib.hid hS; clear hB hS
                        refine Upd.hide fun R1 hR1 => ?_
                        go_simp
                        exact Upd.ok (hR1 _ _ ⟨Below.refl _ _, rfl⟩)
                      · refine OpOk.grow rfl (GuardYes.some rfl (fun _ _ _ h => h)) ?_
                        intro ρ S w1 hc hB hS hI
                        have h148 : ρ (.tmp 148) = .pointer (some ⟨bq, oq + j, none⟩) := And.left hI
                        clear hI; have HB := Lib.hid hB; have HS := Lib.hid hS; clear hB hS
                        have hcl : w1.cell? ⟨bq, oq + j, none⟩ = some (.int .u64 a) := ((HB.out).cell (p := ⟨bq, oq + j, none⟩) HBQ.out).trans HCQ.out
                        refine Upd.hide fun R1 hR1 => ?_
                        go_simp
                        exact Upd.ok (hR1 _ _ ⟨Below.refl _ _, rfl⟩)
                      · refine OpOk.grow rfl (GuardYes.some rfl (fun _ _ _ h => h)) ?_
                        intro ρ S w1 hc hB hS hI
                        have h12 : ρ (.tmp 12) = .slice (some ⟨bp, op, none⟩) q.length c := And.left hI
                        clear hI; have HB := Lib.hid hB; have HS := Lib.hid hS; clear hB hS
                        exact Upd.of (ex_move rfl) ⟨Below.refl _ _, h12⟩
                      · refine OpOk.grow rfl (GuardYes.some rfl (fun _ _ _ h => h)) ?_
                        intro ρ S w1 hc hB hS hI
                        have h17 : ρ (.tmp 17) = .int .i64 (j : Int) := And.left hI
                        clear hI; have HB := Lib.hid hB; have HS := Lib.hid hS; clear hB hS
                        exact Upd.of (ex_move rfl) ⟨Below.refl _ _, h17⟩
                      · refine OpOk.grow rfl (GuardYes.some rfl (fun _ _ _ h => h)) ?_
                        intro ρ S w1 hc hB hS hI
                        have h150 : ρ (.tmp 150) = .slice (some ⟨bp, op, none⟩) q.length c := And.left hI
                        have h151 : ρ (.tmp 151) = .int .i64 (j : Int) := And.left (And.right hI)
                        clear hI; have HB := Lib.hid hB; have HS := Lib.hid hS; clear hB hS
                        refine Upd.hide fun R1 hR1 => ?_
                        go_simp
                        exact Upd.ok (hR1 _ _ ⟨Below.refl _ _, rfl⟩)
                      · refine OpOk.grow rfl (GuardYes.some rfl (fun _ _ _ h => h)) ?_
                        intro ρ S w1 hc hB hS hI
                        have h152 : ρ (.tmp 152) = .pointer (some ⟨bp, op + j, none⟩) := And.left hI
                        clear hI; have HB := Lib.hid hB; have HS := Lib.hid hS; clear hB hS
                        have hcl : w1.cell? ⟨bp, op + j, none⟩ = some (.int .u64 b) := ((HB.out).cell (p := ⟨bp, op + j, none⟩) HBP.out).trans HCP.out
                        refine Upd.hide fun R1 hR1 => ?_
                        go_simp
                        exact Upd.ok (hR1 _ _ ⟨Below.refl _ _, rfl⟩)
                      · refine OpOk.grow rfl (GuardYes.some rfl (fun _ _ _ h => h)) ?_
                        intro ρ S w1 hc hB hS hI
                        have h149 : ρ (.tmp 149) = .int .u64 a := And.left hI
                        have h153 : ρ (.tmp 153) = .int .u64 b := And.left (And.right hI)
                        clear hI; have HB := Lib.hid hB; have HS := Lib.hid hS; clear hB hS
                        refine Upd.hide fun R1 hR1 => ?_
                        go_simp
                        exact Upd.ok (hR1 _ _ ⟨Below.refl _ _, rfl⟩)
                      · refine OpOk.grow rfl (GuardYes.none rfl) ?_
                        intro ρ S w1 hc hB hS hI
                        have h144 : ρ (.tmp 144) = .bool true := And.left hI
                        have h154 : ρ (.tmp 154) = .bool (a == b) := And.left (And.right hI)
                        have hc1 := hc.const; have hc2 := hc.func
                        clear hI; have HB := Lib.hid hB; have HS := Lib.hid hS; clear hB hS
                        exact Upd.of (ex_pick rfl h144) ⟨Below.refl _ _, h154⟩
                      · refine OpOk.grow rfl (GuardYes.none rfl) ?_
                        intro ρ S w1 hc hB hS hI
                        have h155 : ρ (.tmp 155) = .bool (a == b) := And.left hI
                        clear hI; have HB := Lib.hid hB; have HS := Lib.hid hS; clear hB hS
                        exact Upd.of (ex_assign rfl) ⟨Below.refl _ _, h155⟩
                    · intro env3b Sr3b wr3b hB3b hSr3b hF3b
                      have f0 : env3b 0 = .bool true := hF3b 0 (by decide) rfl
                      have f1 : env3b 1 = .bool true := hF3b 1 (by decide) rfl
                      have f2 : env3b 2 = .pointer (some ⟨bx, 0, none⟩) := hF3b 2 (by decide) rfl
                      have f3 : env3b 3 = .slice (some ⟨bq, oq, none⟩) q.length cp := hF3b 3 (by decide) rfl
                      have f4 : env3b 4 = .int .i64 (j : Int) := hF3b 4 (by decide) rfl
                      have f5 : env3b 5 = .pointer (some ⟨bq, oq + j, none⟩) := hF3b 5 (by decide) rfl
                      have f6 : env3b 6 = .int .u64 a := hF3b 6 (by decide) rfl
                      have f7 : env3b 7 = .slice (some ⟨bp, op, none⟩) q.length c := hF3b 7 (by decide) rfl
                      have f8 : env3b 8 = .int .i64 (j : Int) := hF3b 8 (by decide) rfl
                      have f9 : env3b 9 = .pointer (some ⟨bp, op + j, none⟩) := hF3b 9 (by decide) rfl
                      have f10 : env3b 10 = .int .u64 b := hF3b 10 (by decide) rfl
                      have f11 : env3b 11 = .bool (a == b) := hF3b 11 (by decide) rfl
                      have f12 : env3b 12 = .bool (a == b) := hF3b 12 (by decide) rfl
                      have f13 : env3b 13 = .bool (a == b) := hF3b 13 (by decide) rfl
                      clear hF3b
                      simp only [List.take_succ_cons, List.take_nil, List.drop_nil, List.drop_succ_cons, putAll, Act.put, List.setIfInBounds_toArray, List.set_cons_succ, List.set_cons_zero, Nat.reduceAdd, f0, f1, f2, f3, f4, f5, f6, f7, f8, f9, f10, f11, f12, f13]
                      clear f0 f1 f2 f3 f4 f5 f6 f7 f8 f9 f10 f11 f12 f13
                      refine wpList_nil ?_
                      have HCQ := Lib.hid ((hB3b.cell (p := ⟨bq, oq + j, none⟩) HBQ.out).trans HCQ.out)
                      have HBQ := Lib.hid (Nat.lt_of_lt_of_le HBQ.out hB3b.size)
                      have HCP := Lib.hid ((hB3b.cell (p := ⟨bp, op + j, none⟩) HBP.out).trans HCP.out)
                      have HBP := Lib.hid (Nat.lt_of_lt_of_le HBP.out hB3b.size)
                      have HCS := Lib.hid ((hB3b.cell (p := ⟨bs, os + j, none⟩) HBS.out).trans HCS.out)
                      have HBS := Lib.hid (Nat.lt_of_lt_of_le HBS.out hB3b.size)
                      have HX := Lib.hid (HX.out.later hB3b)
                      have HWR := Lib.hid (HWR.out.trans (hB3b.mono HWR.out.size))
                      clear hB3b hSr3b
                      go_wp2
                      go_roundw
                      case rel => exact ⟨j + 1, A, B, (a == b), rfl, rfl, rfl, by go_num, by omega, HG.out.symm, HH.out.symm, (fun _ => HAN.out), HWR.out⟩
                      case measure => simp [intOf]; omega
              | false =>
                refine wp_region_table 20 [RKnown (.int .u64 g) [(14, none)],
                  RKnown (.int .u64 h) [(15, none)],
                  RKnown (.bool true) [(122, some 0), (123, some 1)],
                  RKnown (.bool true) [(124, some 2)],
                  RSkip,
                  RSkip,
                  RSkip,
                  RSkip,
                  RSkip,
                  RSkip,
                  RSkip,
                  RSkip,
                  RSkip,
                  RSkip,
                  RKnown (.bool true) [(125, some 3), (135, some 13)],
                  RKnown (.bool true) [(136, some 14)],
                  RKnown (.int .u64 A) [(18, none)],
                  RKnown (.int .u64 B) [(19, none)],
                  RKnown (.bool (A == B)) [(138, some 16), (139, some 17)],
                  RKnown (.bool (A == B)) [(137, some 15), (140, some 18)]] (by kernel_rfl) (by kernel_rfl) (by kernel_rfl) ?_ ?_
                · refine ⟨?_, ?_, ?_, ?_, ?_, ?_, ?_, ?_, ?_, ?_, ?_, ?_, ?_, ?_, ?_, ?_, ?_, ?_, ?_, ?_, trivial⟩
                  · refine OpOk.grow rfl (GuardYes.none rfl) ?_
                    intro ρ S w1 hc hB hS hI
                    have h14 : ρ (.tmp 14) = .int .u64 g := And.left hI
                    clear hI; have HB := Lib.hid hB; have HS := Lib.hid hS; clear hB hS
                    exact Upd.of (ex_move rfl) ⟨Below.refl _ _, h14⟩
                  · refine OpOk.grow rfl (GuardYes.none rfl) ?_
                    intro ρ S w1 hc hB hS hI
                    have h15 : ρ (.tmp 15) = .int .u64 h := And.left hI
                    clear hI; have HB := Lib.hid hB; have HS := Lib.hid hS; clear hB hS
                    exact Upd.of (ex_move rfl) ⟨Below.refl _ _, h15⟩
                  · refine OpOk.grow rfl (GuardYes.none rfl) ?_
                    intro ρ S w1 hc hB hS hI
                    have h122 : ρ (.tmp 122) = .int .u64 g := And.left hI
                    have h123 : ρ (.tmp 123) = .int .u64 h := And.left (And.right hI)
                    clear hI; have HB := Lib.hid hB; have HS := Lib.hid hS; clear hB hS
                    have hx := HGH.out
                    refine Upd.hide fun R1 hR1 => ?_
                    go_simp
                    exact Upd.ok (hR1 _ _ ⟨Below.refl _ _, by first | rfl | simp | simp [hx]⟩)
                  · refine OpOk.grow rfl (GuardYes.none rfl) ?_
                    intro ρ S w1 hc hB hS hI
                    have h124 : ρ (.tmp 124) = .bool true := And.left hI
                    clear hI; have HB := Lib.hid hB; have HS := Lib.hid hS; clear hB hS
                    exact Upd.of (ex_move rfl) ⟨Below.refl _ _, h124⟩
                  · exact OpOk.skip rfl (GuardNo.some rfl (fun _ _ _ h => .inl h)) (fun _ _ => rfl)
                  · exact OpOk.skip rfl (GuardNo.some rfl (fun _ _ _ h => .inl h)) (fun _ _ => rfl)
                  · exact OpOk.skip rfl (GuardNo.some rfl (fun _ _ _ h => .inl h)) (fun _ _ => rfl)
                  · exact OpOk.skip rfl (GuardNo.some rfl (fun _ _ _ h => .inl h)) (fun _ _ => rfl)
                  · exact OpOk.skip rfl (GuardNo.some rfl (fun _ _ _ h => .inl h)) (fun _ _ => rfl)
                  · exact OpOk.skip rfl (GuardNo.some rfl (fun _ _ _ h => .inl h)) (fun _ _ => rfl)
                  · exact OpOk.skip rfl (GuardNo.some rfl (fun _ _ _ h => .inl h)) (fun _ _ => rfl)
                  · exact OpOk.skip rfl (GuardNo.some rfl (fun _ _ _ h => .inl h)) (fun _ _ => rfl)
                  · exact OpOk.skip rfl (GuardNo.some rfl (fun _ _ _ h => .inl h)) (fun _ _ => rfl)
                  · exact OpOk.skip rfl (GuardNo.some rfl (fun _ _ _ h => .inl h)) (fun _ _ => rfl)
                  · refine OpOk.grow rfl (GuardYes.none rfl) ?_
                    intro ρ S w1 hc hB hS hI
                    have h125 : ρ (.tmp 125) = .bool true := And.left hI
                    have h135 : ρ (.tmp 135) = undef := And.left (And.right hI)
                    have hc1 := hc.const; have hc2 := hc.func
                    clear hI; have HB := Lib.hid hB; have HS := Lib.hid hS; clear hB hS
                    exact Upd.of (ex_pick rfl h125) ⟨Below.refl _ _, hc1 _⟩
                  · refine OpOk.grow rfl (GuardYes.none rfl) ?_
                    intro ρ S w1 hc hB hS hI
                    have h136 : ρ (.tmp 136) = .bool true := And.left hI
                    clear hI; have HB := Lib.hid hB; have HS := Lib.hid hS; clear hB hS
                    exact Upd.of (ex_move rfl) ⟨Below.refl _ _, h136⟩
                  · refine OpOk.grow rfl (GuardYes.some rfl (fun _ _ _ h => h)) ?_
                    intro ρ S w1 hc hB hS hI
                    have h18 : ρ (.tmp 18) = .int .u64 A := And.left hI
                    clear hI; have HB := Lib.hid hB; have HS := Lib.hid hS; clear hB hS
                    exact Upd.of (ex_move rfl) ⟨Below.refl _ _, h18⟩
                  · refine OpOk.grow rfl (GuardYes.some rfl (fun _ _ _ h => h)) ?_
                    intro ρ S w1 hc hB hS hI
                    have h19 : ρ (.tmp 19) = .int .u64 B := And.left hI
                    clear hI; have HB := Lib.hid hB; have HS := Lib.hid hS; clear hB hS
                    exact Upd.of (ex_move rfl) ⟨Below.refl _ _, h19⟩
                  · refine OpOk.grow rfl (GuardYes.some rfl (fun _ _ _ h => h)) ?_
                    intro ρ S w1 hc hB hS hI
                    have h138 : ρ (.tmp 138) = .int .u64 A := And.left hI
                    have h139 : ρ (.tmp 139) = .int .u64 B := And.left (And.right hI)
                    clear hI; have HB := Lib.hid hB; have HS := Lib.hid hS; clear hB hS
                    refine Upd.hide fun R1 hR1 => ?_
                    go_simp
                    exact Upd.ok (hR1 _ _ ⟨Below.refl _ _, rfl⟩)
                  · refine OpOk.grow rfl (GuardYes.none rfl) ?_
                    intro ρ S w1 hc hB hS hI
                    have h137 : ρ (.tmp 137) = .bool true := And.left hI
                    have h140 : ρ (.tmp 140) = .bool (A == B) := And.left (And.right hI)
                    have hc1 := hc.const; have hc2 := hc.func
                    clear hI; have HB := Lib.hid hB; have HS := Lib.hid hS; clear hB hS
                    exact Upd.of (ex_pick rfl h137) ⟨Below.refl _ _, h140⟩
                · intro env4 Sr4 wr4 hB4 hSr4 hF4
                  have f0 : env4 0 = .int .u64 g := hF4 0 (by decide) rfl
                  have f1 : env4 1 = .int .u64 h := hF4 1 (by decide) rfl
                  have f2 : env4 2 = .bool true := hF4 2 (by decide) rfl
                  have f3 : env4 3 = .bool true := hF4 3 (by decide) rfl
                  have f4 : env4 4 = undef := hF4 4 (by decide) rfl
                  have f5 : env4 5 = undef := hF4 5 (by decide) rfl
                  have f6 : env4 6 = undef := hF4 6 (by decide) rfl
                  have f7 : env4 7 = undef := hF4 7 (by decide) rfl
                  have f8 : env4 8 = undef := hF4 8 (by decide) rfl
                  have f9 : env4 9 = undef := hF4 9 (by decide) rfl
                  have f10 : env4 10 = undef := hF4 10 (by decide) rfl
                  have f11 : env4 11 = undef := hF4 11 (by decide) rfl
                  have f12 : env4 12 = undef := hF4 12 (by decide) rfl
                  have f13 : env4 13 = undef := hF4 13 (by decide) rfl
                  have f14 : env4 14 = .bool true := hF4 14 (by decide) rfl
                  have f15 : env4 15 = .bool true := hF4 15 (by decide) rfl
                  have f16 : env4 16 = .int .u64 A := hF4 16 (by decide) rfl
                  have f17 : env4 17 = .int .u64 B := hF4 17 (by decide) rfl
                  have f18 : env4 18 = .bool (A == B) := hF4 18 (by decide) rfl
                  have f19 : env4 19 = .bool (A == B) := hF4 19 (by decide) rfl
                  clear hF4
                  simp only [List.take_succ_cons, List.take_nil, List.drop_nil, List.drop_succ_cons, putAll, Act.put, List.setIfInBounds_toArray, List.set_cons_succ, List.set_cons_zero, Nat.reduceAdd, f0, f1, f2, f3, f4, f5, f6, f7, f8, f9, f10, f11, f12, f13, f14, f15, f16, f17, f18, f19]
                  clear f0 f1 f2 f3 f4 f5 f6 f7 f8 f9 f10 f11 f12 f13 f14 f15 f16 f17 f18 f19
                  refine wpList_nil ?_
                  have HCQ := Lib.hid ((hB4.cell (p := ⟨bq, oq + j, none⟩) HBQ.out).trans HCQ.out)
                  have HBQ := Lib.hid (Nat.lt_of_lt_of_le HBQ.out hB4.size)
                  have HCP := Lib.hid ((hB4.cell (p := ⟨bp, op + j, none⟩) HBP.out).trans HCP.out)
                  have HBP := Lib.hid (Nat.lt_of_lt_of_le HBP.out hB4.size)
                  have HCS := Lib.hid ((hB4.cell (p := ⟨bs, os + j, none⟩) HBS.out).trans HCS.out)
                  have HBS := Lib.hid (Nat.lt_of_lt_of_le HBS.out hB4.size)
                  have HX := Lib.hid (HX.out.later hB4)
                  have HWR := Lib.hid (HWR.out.trans (hB4.mono HWR.out.size))
                  clear hB4 hSr4
                  by_cases hAB : A = B
                  · have e6 : (A == B) = true := beq_iff_eq.2 hAB
                    go_wp2
                    go_ret
                    exact ⟨rfl, HW.out.trans (HWR.out.mono HW.out.size)⟩
                  · have e6 : (A == B) = false := beq_eq_false_iff_ne.2 hAB
                    have HAN := Lib.hid hAB
                    clear hAB
                    go_upto_region 21 with (fail)
                    refine wp_region_table 14 [RKnown (.bool false) [(16, none)],
                      RKnown (.bool false) [(143, some 0)],
                      RSkip,
                      RSkip,
                      RSkip,
                      RSkip,
                      RSkip,
                      RSkip,
                      RSkip,
                      RSkip,
                      RSkip,
                      RSkip,
                      RKnown (.bool false) [(144, some 1), (154, some 11)],
                      RKnown (.bool false) [(155, some 12)]] (by kernel_rfl) (by kernel_rfl) (by kernel_rfl) ?_ ?_
                    · refine ⟨?_, ?_, ?_, ?_, ?_, ?_, ?_, ?_, ?_, ?_, ?_, ?_, ?_, ?_, trivial⟩
                      · refine OpOk.grow rfl (GuardYes.none rfl) ?_
                        intro ρ S w1 hc hB hS hI
                        have h16 : ρ (.tmp 16) = .bool false := And.left hI
                        clear hI; have HB := Lib.hid hB; have HS := Lib.hid hS; clear hB hS
                        exact Upd.of (ex_move rfl) ⟨Below.refl _ _, h16⟩
                      · refine OpOk.grow rfl (GuardYes.none rfl) ?_
                        intro ρ S w1 hc hB hS hI
                        have h143 : ρ (.tmp 143) = .bool false := And.left hI
                        clear hI; have HB := Lib.hid hB; have HS := Lib.hid hS; clear hB hS
                        exact Upd.of (ex_move rfl) ⟨Below.refl _ _, h143⟩
                      · exact OpOk.skip rfl (GuardNo.some rfl (fun _ _ _ h => .inl h)) (fun _ _ => rfl)
                      · exact OpOk.skip rfl (GuardNo.some rfl (fun _ _ _ h => .inl h)) (fun _ _ => rfl)
                      · exact OpOk.skip rfl (GuardNo.some rfl (fun _ _ _ h => .inl h)) (fun _ _ => rfl)
                      · exact OpOk.skip rfl (GuardNo.some rfl (fun _ _ _ h => .inl h)) (fun _ _ => rfl)
                      · exact OpOk.skip rfl (GuardNo.some rfl (fun _ _ _ h => .inl h)) (fun _ _ => rfl)
                      · exact OpOk.skip rfl (GuardNo.some rfl (fun _ _ _ h => .inl h)) (fun _ _ => rfl)
                      · exact OpOk.skip rfl (GuardNo.some rfl (fun _ _ _ h => .inl h)) (fun _ _ => rfl)
                      · exact OpOk.skip rfl (GuardNo.some rfl (fun _ _ _ h => .inl h)) (fun _ _ => rfl)
                      · exact OpOk.skip rfl (GuardNo.some rfl (fun _ _ _ h => .inl h)) (fun _ _ => rfl)
                      · exact OpOk.skip rfl (GuardNo.some rfl (fun _ _ _ h => .inl h)) (fun _ _ => rfl)
                      · refine OpOk.grow rfl (GuardYes.none rfl) ?_
                        intro ρ S w1 hc hB hS hI
                        have h144 : ρ (.tmp 144) = .bool false := And.left hI
                        have h154 : ρ (.tmp 154) = undef := And.left (And.right hI)
                        have hc1 := hc.const; have hc2 := hc.func
                        clear hI; have HB := Lib.hid hB; have HS := Lib.hid hS; clear hB hS
                        exact Upd.of (ex_pick rfl h144) ⟨Below.refl _ _, hc1 _⟩
                      · refine OpOk.grow rfl (GuardYes.none rfl) ?_
                        intro ρ S w1 hc hB hS hI
                        have h155 : ρ (.tmp 155) = .bool false := And.left hI
                        clear hI; have HB := Lib.hid hB; have HS := Lib.hid hS; clear hB hS
                        exact Upd.of (ex_assign rfl) ⟨Below.refl _ _, h155⟩
                    · intro env4b Sr4b wr4b hB4b hSr4b hF4b
                      have f0 : env4b 0 = .bool false := hF4b 0 (by decide) rfl
                      have f1 : env4b 1 = .bool false := hF4b 1 (by decide) rfl
                      have f2 : env4b 2 = undef := hF4b 2 (by decide) rfl
                      have f3 : env4b 3 = undef := hF4b 3 (by decide) rfl
                      have f4 : env4b 4 = undef := hF4b 4 (by decide) rfl
                      have f5 : env4b 5 = undef := hF4b 5 (by decide) rfl
                      have f6 : env4b 6 = undef := hF4b 6 (by decide) rfl
                      have f7 : env4b 7 = undef := hF4b 7 (by decide) rfl
                      have f8 : env4b 8 = undef := hF4b 8 (by decide) rfl
                      have f9 : env4b 9 = undef := hF4b 9 (by decide) rfl
                      have f10 : env4b 10 = undef := hF4b 10 (by decide) rfl
                      have f11 : env4b 11 = undef := hF4b 11 (by decide) rfl
                      have f12 : env4b 12 = .bool false := hF4b 12 (by decide) rfl
                      have f13 : env4b 13 = .bool false := hF4b 13 (by decide) rfl
                      clear hF4b
                      simp only [List.take_succ_cons, List.take_nil, List.drop_nil, List.drop_succ_cons, putAll, Act.put, List.setIfInBounds_toArray, List.set_cons_succ, List.set_cons_zero, Nat.reduceAdd, f0, f1, f2, f3, f4, f5, f6, f7, f8, f9, f10, f11, f12, f13]
                      clear f0 f1 f2 f3 f4 f5 f6 f7 f8 f9 f10 f11 f12 f13
                      refine wpList_nil ?_
                      have HCQ := Lib.hid ((hB4b.cell (p := ⟨bq, oq + j, none⟩) HBQ.out).trans HCQ.out)
                      have HBQ := Lib.hid (Nat.lt_of_lt_of_le HBQ.out hB4b.size)
                      have HCP := Lib.hid ((hB4b.cell (p := ⟨bp, op + j, none⟩) HBP.out).trans HCP.out)
                      have HBP := Lib.hid (Nat.lt_of_lt_of_le HBP.out hB4b.size)
                      have HCS := Lib.hid ((hB4b.cell (p := ⟨bs, os + j, none⟩) HBS.out).trans HCS.out)
                      have HBS := Lib.hid (Nat.lt_of_lt_of_le HBS.out hB4b.size)
                      have HX := Lib.hid (HX.out.later hB4b)
                      have HWR := Lib.hid (HWR.out.trans (hB4b.mono HWR.out.size))
                      clear hB4b hSr4b
                      go_wp2
                      go_roundw
                      case rel => exact ⟨j + 1, A, B, false, rfl, rfl, rfl, by go_num, by omega, HG.out.symm, HH.out.symm, (fun _ => HAN.out), HWR.out⟩
                      case measure => simp [intOf]; omega
        · have hjq : j = q.length := by omega
          subst hjq
          have hj0 : ¬ (q.length : Int) < (q.length : Int) := by omega
          rw [List.take_of_length_le (Nat.le_refl _), List.take_of_length_le (by rw [HSL.out]; exact Nat.le_refl _), HOKX.out] at hg
          rw [List.take_of_length_le (by rw [HPLL.out]; exact Nat.le_refl _), List.take_of_length_le (by rw [HSL.out]; exact Nat.le_refl _), HOKY.out] at hh
          have he : e = true := by cases e with | true => rfl | false => exact absurd (hg.trans hh.symm) (hne rfl)
          subst he
          clear hg hh hne
          go_wp2
          go_ret
          exact ⟨rfl, HW.out.trans (hbw.mono HW.out.size)⟩
    · have e5 : (c0 != 0) = true := bne_iff_ne.2 hc
      go_wp2
      go_ret
      exact ⟨rfl, HW.out⟩

end Go.Proofs.Ytjmfaebimgnblaa
