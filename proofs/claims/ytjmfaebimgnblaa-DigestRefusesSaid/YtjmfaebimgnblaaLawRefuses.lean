/-
  DigestRefuses answers true.
-/
import Derived.Test.YtjmfaebimgnblaaEx01
import Derived.Test.YtjmfaebimgnblaaPureD
import Derived.Deep.Cut
namespace Go.Proofs.Ytjmfaebimgnblaa
open Go.RowKit

/-- What the law says of the checks, in plain words. -/
structure RefF (d : List Int) (n i : Nat) (x y : Int) (q : List Int) : Prop where
  c0 : checkF (rootF d) (n : Int) (i : Int) y q = if y = x then 0 else 6
  c1 : checkF (rootF d) (n : Int) (i : Int) x (q ++ [y]) = 6
  c2 : checkF (rootF d) (n : Int) (i : Int) x ([y] ++ q) = 6
  c3 : ∀ k z, q[k]? = some z → checkF (rootF d) (n : Int) (i : Int) x (q.set k y) = if y = z then 0 else 6
  c4 : q ≠ [] → checkF (rootF d) (n : Int) (i : Int) x (q.take (q.length - 1)) = 6
  nl : q = [] → n = 1
  ln : q.length ≤ 9

theorem pathF_nil (l : List Int) (i : Nat) (h : pathF l i = []) : l.length ≤ 1 := by
  refine Decidable.byContradiction fun hn => ?_
  by_cases hi : i < halfF l.length
  · rw [pathF_lo l i (by omega) hi] at h
    simp at h
  · rw [pathF_hi l i (by omega) (by omega)] at h
    simp at h

theorem refF (d : List Int) (n i : Nat) (x y : Int) (hn : d.length = n) (h1 : 1 ≤ n) (h3 : n ≤ 300) (hx : d[i]? = some x) (hd : ∀ z ∈ d, In64 z) (hy : In64 y) : RefF d n i x y (pathF d i) := by
  have hi := (List.getElem?_eq_some_iff.1 hx).1
  subst hn
  refine ⟨check_leaf d i x y hx (by omega) hd hy, check_short d i x _ _ hi (by omega) (by simp), check_short d i x _ _ hi (by omega) (by simp), fun k z hz => check_set d i x y z k hx (by omega) hd hy hz,
    fun hq => check_short d i x _ _ hi (by omega) ?_, fun hq => ?_, pathF_bits 9 d i (by omega)⟩
  · have := List.length_pos_iff.2 hq
    rw [List.length_take]
    omega
  · have := pathF_nil d i hq
    omega

theorem ite6 (a b : Int) : ((if a = b then (0 : Int) else 6) == 0) = (a == b) := by
  by_cases h : a = b
  · simp [h]
  · simp [h]

set_option maxRecDepth 100000 in
set_option maxHeartbeats 4000000 in
theorem refuses_calls (v : Value) (l : List Int) (k0 k1 k2 : Nat) (y : Int) (S : Nat → Prop) (w : World) (h0 : k0 ≤ 65535) (h1 : k1 ≤ 65535) (h2 : k2 ≤ 65535) (hlin : ∀ x ∈ l, In64 x) (hyin : In64 y) (hl : IsInts .u64 S w v l) :
    Calls Try.prog 4 #[v, .agg #[.int .u16 (k0 : Int), .int .u16 (k1 : Int), .int .u16 (k2 : Int)], .int .u64 y] w fun e w' => e = .returned (.bool true) ∧ Below w.heap.size w w' := by
  have HL := Lib.hid hl
  obtain ⟨p, c, rfl, hlc, hcm, hp, _⟩ := hl
  clear hp
  have hcm0 : c ≤ 9223372036854775807 := hcm
  clear hcm
  go_enter Try.func4, Try.ntmps4
  go_wp2_with fail
  have HK : Hid (Box (w.alloc (.cells #[.int .u16 (k0 : Int), .int .u16 (k1 : Int), .int .u16 (k2 : Int)] 40)) w.heap.size 40 #[.int .u16 (k0 : Int), .int .u16 (k1 : Int), .int .u16 (k2 : Int)]) := Box.new _ _ _
  have HW : Hid (Below w.heap.size w (w.alloc (.cells #[.int .u16 (k0 : Int), .int .u16 (k1 : Int), .int .u16 (k2 : Int)] 40))) := (Below.refl _ w).alloc (Nat.le_refl _) _
  have HL2 := Lib.hid (HL.out.later HW.out)
  clear HL
  generalize w.alloc (.cells #[.int .u16 (k0 : Int), .int .u16 (k1 : Int), .int .u16 (k2 : Int)] 40) = w0 at *
  refine (examples01_calls _).mono ?_
  rintro e w1 ⟨rfl, hb⟩
  have HK1 := Lib.hid (HK.out.later hb)
  have HW1 := Lib.hid (HW.out.trans (hb.mono HW.out.size))
  have HL3 := Lib.hid (HL2.out.later hb)
  clear hb HK HW HL2
  have hk0 := HK1.out.cell 0 (v := .int .u16 (k0 : Int)) rfl
  go_wp2_with fail
  obtain ⟨n, hn⟩ : ∃ n, n = 1 + k0 % 300 := ⟨_, rfl⟩
  rw [show (1 + (k0 : Int) % 300) = (n : Int) from by omega]
  have hn1 : 1 ≤ n := by omega
  have hn2 : n ≤ 300 := by omega
  clear hn hk0
  refine (Grown_calls _ l n _ _ (by omega) HL3.out).mono ?_
  rintro e w2 ⟨r, rfl, ho, hb⟩
  obtain ⟨d, hd⟩ : ∃ d, d = grownF l n := ⟨_, rfl⟩
  have hdl : d.length = n := by rw [hd, grownF_len]
  have hdi : ∀ x ∈ d, In64 x := by rw [hd]; exact grownF_in l n hlin
  have HDI := Lib.hid hdi
  rw [← hd] at ho
  have HD := Lib.hid ho.toRow
  obtain ⟨pr, cr, rfl, hcr, hcm, -⟩ := ho.toRow.shape
  have HK2 := Lib.hid (HK1.out.later hb)
  have HW2 := Lib.hid (HW1.out.trans (hb.mono HW1.out.size))
  have HL4 := Lib.hid (HL3.out.later hb)
  clear hb HK1 HW1 HL3 ho hd hdi
  have hcm : cr ≤ 9223372036854775807 := hcm
  rw [hdl] at HD hcr ⊢
  have HDL := Lib.hid hdl
  clear hdl
  have e1 : ((n : Int) == 0) = false := beq_eq_false_iff_ne.2 (by omega)
  have hk1 := HK2.out.cell 1 (v := .int .u16 (k1 : Int)) rfl
  go_wp2_with fail
  obtain ⟨i, hi⟩ : ∃ i, i = k1 % n := ⟨_, rfl⟩
  rw [show ((k1 : Int) % (n : Int)) = (i : Int) from by rw [hi]; omega]
  have hin : i < n := by rw [hi]; exact Nat.mod_lt _ (by omega)
  clear hi hk1 e1
  refine (root_calls _ d _ _ (by rw [HDL.out]; omega) HD.out).mono ?_
  rintro e w3 ⟨rfl, hb⟩
  have HD3 := Lib.hid (HD.out.later hb)
  have HK3 := Lib.hid (HK2.out.later hb)
  have HW3 := Lib.hid (HW2.out.trans (hb.mono HW2.out.size))
  clear hb HD HK2 HW2 HL4
  go_wp2_with fail
  have hbp : badPath d (i : Int) = false := decide_eq_false (by rw [HDL.out]; omega)
  have hpl : pathList d (i : Int) = pathF d i := by unfold pathList; rw [hbp]; rfl
  have hpe : pathErr d (i : Int) = 0 := by unfold pathErr; rw [hbp]; rfl
  obtain ⟨x, hx⟩ : ∃ x, d[i]? = some x := ⟨_, List.getElem?_eq_getElem (by rw [HDL.out]; exact hin)⟩
  have HREF := Lib.hid (refF d n i x y HDL.out hn1 hn2 hx HDI.out hyin)
  refine (pathsV_calls _ d _ _ (fun _ => True) _ (by rw [HDL.out]; omega) HD3.out).mono ?_
  rw [hpl, hpe]
  clear hbp hpl hpe
  generalize pathF d i = q at *
  rintro e w4 ⟨r, rfl, ⟨pp, cp, rfl, hr⟩, hb⟩
  have HR := Lib.hid hr
  have HD4 := Lib.hid (HD3.out.later hb)
  have HK4 := Lib.hid (HK3.out.later hb)
  have HW4 := Lib.hid (HW3.out.trans (hb.mono HW3.out.size))
  obtain ⟨p9, c9, e9, hpc, hpm, -⟩ := hr.shape
  simp only [Value.slice.injEq] at e9
  obtain ⟨rfl, -, rfl⟩ := e9
  have hpm : cp ≤ 9223372036854775807 := hpm
  clear hb HD3 HK3 HW3 hr
  go_upto_region 7 with (fail)
  have HX : Hid (Box (w4.alloc (.cells #[.slice pp q.length cp, .int .i64 0] 29)) w4.heap.size 29 #[.slice pp q.length cp, .int .i64 0]) := Box.new _ _ _
  have HA : Hid (Below w4.heap.size w4 (w4.alloc (.cells #[.slice pp q.length cp, .int .i64 0] 29))) := (Below.refl _ w4).alloc (Nat.le_refl _) _
  have HW5 := Lib.hid (HW4.out.trans (HA.out.mono HW4.out.size))
  have HD5 := Lib.hid (HD4.out.later HA.out)
  have HK5 := Lib.hid (HK4.out.later HA.out)
  have HP5 := Lib.hid (HR.out.later HA.out)
  clear HW4 HD4 HK4 HR HA
  generalize w4.alloc (.cells #[.slice pp q.length cp, .int .i64 0] 29) = w5 at *
  generalize w4.heap.size = bx at *
  obtain ⟨bd, od, rfl, -, hbd, hcd⟩ := HD5.out.cellAt hx
  have HXX := Lib.hid hx
  clear hx
  have hi0 : (0 : Int) ≤ (i : Int) := by omega
  have hi1 : (i : Int) < (n : Int) := by omega
  go_upto_region 8 with (fail)
  have HLF : Hid (Box (w5.alloc (.cells #[.int .i64 (i : Int), .int .u64 x] 38)) w5.heap.size 38 #[.int .i64 (i : Int), .int .u64 x]) := Box.new _ _ _
  have HA : Hid (Below w5.heap.size w5 (w5.alloc (.cells #[.int .i64 (i : Int), .int .u64 x] 38))) := (Below.refl _ w5).alloc (Nat.le_refl _) _
  have HCD : Hid ((w5.alloc (.cells #[.int .i64 (i : Int), .int .u64 x] 38)).cell? ⟨bd, od + i, none⟩ = some (.int .u64 x)) := ((HA.out).cell (p := ⟨bd, od + i, none⟩) hbd).trans hcd
  have HBD : Hid (bd < (w5.alloc (.cells #[.int .i64 (i : Int), .int .u64 x] 38)).heap.size) := Nat.lt_of_lt_of_le hbd HA.out.size
  have HW := Lib.hid (HW5.out.trans (HA.out.mono HW5.out.size))
  have HD := Lib.hid (HD5.out.later HA.out)
  have HK := Lib.hid (HK5.out.later HA.out)
  have HP := Lib.hid (HP5.out.later HA.out)
  have HX := Lib.hid (HX.out.later HA.out)
  clear HW5 HD5 HK5 HP5 HA hcd hbd
  generalize w5.alloc (.cells #[.int .i64 (i : Int), .int .u64 x] 38) = w6 at *
  generalize w5.heap.size = bl at *
  obtain ⟨c0, hc0⟩ : ∃ c0, c0 = (if y = x then (0 : Int) else 6) := ⟨_, rfl⟩
  have HC0 : Hid (checkF (rootF d) (n : Int) (i : Int) y q = c0) := by rw [hc0]; exact HREF.out.c0
  have HC00 : Hid ((c0 == 0) = (y == x)) := by rw [hc0]; exact ite6 y x
  clear hc0 hi0 hi1
  refine wp_region_table 23 [RKnown (.pointer (some ⟨bx, 1, none⟩)) [(11, none)],
    RKnown (.int .i64 0) [(44, some 0)],
    RKnown (.bool false) [(45, some 1)],
    RKnown (.bool false) [(46, some 2)],
    RKnown (.int .u64 (rootF d)) [(10, none)],
    RKnown (.slice (some ⟨bd, od, none⟩) n cr) [(8, none)],
    RKnown (.int .i64 (n : Nat)) [(49, some 5)],
    RKnown (.pointer (some ⟨bx, 0, none⟩)) [(11, none)],
    RKnown (.slice pp q.length cp) [(51, some 7)],
    RKnown (.agg #[.int .i64 (n : Int), .slice pp q.length cp]) [(50, some 6), (52, some 8)],
    RKnown (.int .i64 (i : Int)) [(9, none)],
    RKnown (.int .u64 y) [(2, none)],
    RKnown (.agg #[.int .i64 (i : Int), .int .u64 y]) [(54, some 10), (55, some 11)],
    RKnown (.int .i64 c0) [(48, some 4), (53, some 9), (56, some 12)],
    RKnown (.bool (c0 == 0)) [(57, some 13)],
    RKnown (.int .u64 y) [(2, none)],
    RKnown (.slice (some ⟨bd, od, none⟩) n cr) [(8, none)],
    RKnown (.int .i64 (i : Int)) [(9, none)],
    RKnown (.pointer (some ⟨bd, od + i, none⟩)) [(60, some 16), (61, some 17)],
    RKnown (.int .u64 x) [(62, some 18)],
    RKnown (.bool (y == x)) [(59, some 15), (63, some 19)],
    RKnown (.bool false) [(58, some 14), (64, some 20)],
    RKnown (.bool false) [(47, some 3), (65, some 21)]] (by kernel_rfl) (by kernel_rfl) (by kernel_rfl) ?_ ?_
  · refine ⟨?_, ?_, ?_, ?_, ?_, ?_, ?_, ?_, ?_, ?_, ?_, ?_, ?_, ?_, ?_, ?_, ?_, ?_, ?_, ?_, ?_, ?_, ?_, trivial⟩
    · refine OpOk.grow rfl (GuardYes.none rfl) ?_
      intro ρ S w1 hc hB hS hI
      have h11 : ρ (.tmp 11) = .pointer (some ⟨bx, 0, none⟩) := And.left hI
      clear hI; have HB := Lib.hid hB; have HS := Lib.hid hS; clear hB hS
      refine Upd.hide fun R1 hR1 => ?_
      go_simp
      exact Upd.ok (hR1 _ _ ⟨Below.refl _ _, rfl⟩)
    · refine OpOk.grow rfl (GuardYes.none rfl) ?_
      intro ρ S w1 hc hB hS hI
      have h44 : ρ (.tmp 44) = .pointer (some ⟨bx, 1, none⟩) := And.left hI
      clear hI; have HB := Lib.hid hB; have HS := Lib.hid hS; clear hB hS
      have hcl := (HX.out.later HB.out).cell 1 (v := .int .i64 0) rfl
      refine Upd.hide fun R1 hR1 => ?_
      go_simp
      exact Upd.ok (hR1 _ _ ⟨Below.refl _ _, rfl⟩)
    · refine OpOk.grow rfl (GuardYes.none rfl) ?_
      intro ρ S w1 hc hB hS hI
      have h45 : ρ (.tmp 45) = .int .i64 0 := And.left hI
      have hc1 := hc.const; have hc2 := hc.func
      clear hI; have HB := Lib.hid hB; have HS := Lib.hid hS; clear hB hS
      refine Upd.hide fun R1 hR1 => ?_
      go_simp
      exact Upd.ok (hR1 _ _ ⟨Below.refl _ _, by first | rfl | simp⟩)
    · refine OpOk.grow rfl (GuardYes.none rfl) ?_
      intro ρ S w1 hc hB hS hI
      have h46 : ρ (.tmp 46) = .bool false := And.left hI
      clear hI; have HB := Lib.hid hB; have HS := Lib.hid hS; clear hB hS
      exact Upd.of (ex_move rfl) ⟨Below.refl _ _, h46⟩
    · refine OpOk.grow rfl (GuardYes.some rfl (fun _ _ _ h => h)) ?_
      intro ρ S w1 hc hB hS hI
      have h10 : ρ (.tmp 10) = .int .u64 (rootF d) := And.left hI
      clear hI; have HB := Lib.hid hB; have HS := Lib.hid hS; clear hB hS
      exact Upd.of (ex_move rfl) ⟨Below.refl _ _, h10⟩
    · refine OpOk.grow rfl (GuardYes.some rfl (fun _ _ _ h => h)) ?_
      intro ρ S w1 hc hB hS hI
      have h8 : ρ (.tmp 8) = .slice (some ⟨bd, od, none⟩) n cr := And.left hI
      clear hI; have HB := Lib.hid hB; have HS := Lib.hid hS; clear hB hS
      exact Upd.of (ex_move rfl) ⟨Below.refl _ _, h8⟩
    · refine OpOk.grow rfl (GuardYes.some rfl (fun _ _ _ h => h)) ?_
      intro ρ S w1 hc hB hS hI
      have h49 : ρ (.tmp 49) = .slice (some ⟨bd, od, none⟩) n cr := And.left hI
      clear hI; have HB := Lib.hid hB; have HS := Lib.hid hS; clear hB hS
      exact Upd.of (ex_len_slice rfl (by kernel_rfl) h49) ⟨Below.refl _ _, rfl⟩
    · refine OpOk.grow rfl (GuardYes.some rfl (fun _ _ _ h => h)) ?_
      intro ρ S w1 hc hB hS hI
      have h11 : ρ (.tmp 11) = .pointer (some ⟨bx, 0, none⟩) := And.left hI
      clear hI; have HB := Lib.hid hB; have HS := Lib.hid hS; clear hB hS
      refine Upd.hide fun R1 hR1 => ?_
      go_simp
      exact Upd.ok (hR1 _ _ ⟨Below.refl _ _, rfl⟩)
    · refine OpOk.grow rfl (GuardYes.some rfl (fun _ _ _ h => h)) ?_
      intro ρ S w1 hc hB hS hI
      have h51 : ρ (.tmp 51) = .pointer (some ⟨bx, 0, none⟩) := And.left hI
      clear hI; have HB := Lib.hid hB; have HS := Lib.hid hS; clear hB hS
      have hcl := (HX.out.later HB.out).cell 0 (v := .slice pp q.length cp) rfl
      refine Upd.hide fun R1 hR1 => ?_
      go_simp
      exact Upd.ok (hR1 _ _ ⟨Below.refl _ _, rfl⟩)
    · refine OpOk.grow rfl (GuardYes.some rfl (fun _ _ _ h => h)) ?_
      intro ρ S w1 hc hB hS hI
      have h50 : ρ (.tmp 50) = .int .i64 (n : Nat) := And.left hI
      have h52 : ρ (.tmp 52) = .slice pp q.length cp := And.left (And.right hI)
      clear hI; have HB := Lib.hid hB; have HS := Lib.hid hS; clear hB hS
      refine Upd.hide fun R1 hR1 => ?_
      go_simp
      exact Upd.ok (hR1 _ _ ⟨Below.refl _ _, rfl⟩)
    · refine OpOk.grow rfl (GuardYes.some rfl (fun _ _ _ h => h)) ?_
      intro ρ S w1 hc hB hS hI
      have h9 : ρ (.tmp 9) = .int .i64 (i : Int) := And.left hI
      clear hI; have HB := Lib.hid hB; have HS := Lib.hid hS; clear hB hS
      exact Upd.of (ex_move rfl) ⟨Below.refl _ _, h9⟩
    · refine OpOk.grow rfl (GuardYes.some rfl (fun _ _ _ h => h)) ?_
      intro ρ S w1 hc hB hS hI
      have h2 : ρ (.tmp 2) = .int .u64 y := And.left hI
      clear hI; have HB := Lib.hid hB; have HS := Lib.hid hS; clear hB hS
      exact Upd.of (ex_move rfl) ⟨Below.refl _ _, h2⟩
    · refine OpOk.grow rfl (GuardYes.some rfl (fun _ _ _ h => h)) ?_
      intro ρ S w1 hc hB hS hI
      have h54 : ρ (.tmp 54) = .int .i64 (i : Int) := And.left hI
      have h55 : ρ (.tmp 55) = .int .u64 y := And.left (And.right hI)
      clear hI; have HB := Lib.hid hB; have HS := Lib.hid hS; clear hB hS
      refine Upd.hide fun R1 hR1 => ?_
      go_simp
      exact Upd.ok (hR1 _ _ ⟨Below.refl _ _, rfl⟩)
    · refine OpOk.grow rfl (GuardYes.some rfl (fun _ _ _ h => h)) ?_
      intro ρ S w1 hc hB hS hI
      have h48 : ρ (.tmp 48) = .int .u64 (rootF d) := And.left hI
      have h53 : ρ (.tmp 53) = .agg #[.int .i64 (n : Int), .slice pp q.length cp] := And.left (And.right hI)
      have h56 : ρ (.tmp 56) = .agg #[.int .i64 (i : Int), .int .u64 y] := And.left (And.right (And.right hI))
      have hc1 := hc.const; have hc2 := hc.func
      clear hI; have HB := Lib.hid hB; have HS := Lib.hid hS; clear hB hS
      refine Upd.call (vs := #[.int .u64 (rootF d), .agg #[.int .i64 (n : Int), .slice pp q.length cp], .agg #[.int .i64 (i : Int), .int .u64 y]]) rfl hc (by kernel_rfl) (by simp only [List.map_toArray, List.map_cons, List.map_nil, h48, h53, h56]) ?_
      refine (check_calls _ _ _ _ _ _ S _ (HP.out.base HB.out HS.out)).mono ?_
      rintro e w2 ⟨rfl, hb2⟩
      exact ⟨_, rfl, hb2, congrArg (Value.int .i64) HC0.out⟩
    · refine OpOk.grow rfl (GuardYes.some rfl (fun _ _ _ h => h)) ?_
      intro ρ S w1 hc hB hS hI
      have h57 : ρ (.tmp 57) = .int .i64 c0 := And.left hI
      have hc1 := hc.const; have hc2 := hc.func
      clear hI; have HB := Lib.hid hB; have HS := Lib.hid hS; clear hB hS
      refine Upd.hide fun R1 hR1 => ?_
      go_simp
      exact Upd.ok (hR1 _ _ ⟨Below.refl _ _, rfl⟩)
    · refine OpOk.grow rfl (GuardYes.some rfl (fun _ _ _ h => h)) ?_
      intro ρ S w1 hc hB hS hI
      have h2 : ρ (.tmp 2) = .int .u64 y := And.left hI
      clear hI; have HB := Lib.hid hB; have HS := Lib.hid hS; clear hB hS
      exact Upd.of (ex_move rfl) ⟨Below.refl _ _, h2⟩
    · refine OpOk.grow rfl (GuardYes.some rfl (fun _ _ _ h => h)) ?_
      intro ρ S w1 hc hB hS hI
      have h8 : ρ (.tmp 8) = .slice (some ⟨bd, od, none⟩) n cr := And.left hI
      clear hI; have HB := Lib.hid hB; have HS := Lib.hid hS; clear hB hS
      exact Upd.of (ex_move rfl) ⟨Below.refl _ _, h8⟩
    · refine OpOk.grow rfl (GuardYes.some rfl (fun _ _ _ h => h)) ?_
      intro ρ S w1 hc hB hS hI
      have h9 : ρ (.tmp 9) = .int .i64 (i : Int) := And.left hI
      clear hI; have HB := Lib.hid hB; have HS := Lib.hid hS; clear hB hS
      exact Upd.of (ex_move rfl) ⟨Below.refl _ _, h9⟩
    · refine OpOk.grow rfl (GuardYes.some rfl (fun _ _ _ h => h)) ?_
      intro ρ S w1 hc hB hS hI
      have h60 : ρ (.tmp 60) = .slice (some ⟨bd, od, none⟩) n cr := And.left hI
      have h61 : ρ (.tmp 61) = .int .i64 (i : Int) := And.left (And.right hI)
      clear hI; have HB := Lib.hid hB; have HS := Lib.hid hS; clear hB hS
      refine Upd.hide fun R1 hR1 => ?_
      go_simp
      exact Upd.ok (hR1 _ _ ⟨Below.refl _ _, rfl⟩)
    · refine OpOk.grow rfl (GuardYes.some rfl (fun _ _ _ h => h)) ?_
      intro ρ S w1 hc hB hS hI
      have h62 : ρ (.tmp 62) = .pointer (some ⟨bd, od + i, none⟩) := And.left hI
      clear hI; have HB := Lib.hid hB; have HS := Lib.hid hS; clear hB hS
      have hcl : w1.cell? ⟨bd, od + i, none⟩ = some (.int .u64 x) := ((HB.out).cell (p := ⟨bd, od + i, none⟩) HBD.out).trans HCD.out
      refine Upd.hide fun R1 hR1 => ?_
      go_simp
      exact Upd.ok (hR1 _ _ ⟨Below.refl _ _, rfl⟩)
    · refine OpOk.grow rfl (GuardYes.some rfl (fun _ _ _ h => h)) ?_
      intro ρ S w1 hc hB hS hI
      have h59 : ρ (.tmp 59) = .int .u64 y := And.left hI
      have h63 : ρ (.tmp 63) = .int .u64 x := And.left (And.right hI)
      clear hI; have HB := Lib.hid hB; have HS := Lib.hid hS; clear hB hS
      refine Upd.hide fun R1 hR1 => ?_
      go_simp
      exact Upd.ok (hR1 _ _ ⟨Below.refl _ _, rfl⟩)
    · refine OpOk.grow rfl (GuardYes.some rfl (fun _ _ _ h => h)) ?_
      intro ρ S w1 hc hB hS hI
      have h58 : ρ (.tmp 58) = .bool (c0 == 0) := And.left hI
      have h64 : ρ (.tmp 64) = .bool (y == x) := And.left (And.right hI)
      clear hI; have HB := Lib.hid hB; have HS := Lib.hid hS; clear hB hS
      have heq := HC00.out
      refine Upd.hide fun R1 hR1 => ?_
      go_simp
      exact Upd.ok (hR1 _ _ ⟨Below.refl _ _, by first | rfl | simp⟩)
    · refine OpOk.grow rfl (GuardYes.none rfl) ?_
      intro ρ S w1 hc hB hS hI
      have h47 : ρ (.tmp 47) = .bool false := And.left hI
      have h65 : ρ (.tmp 65) = .bool false := And.left (And.right hI)
      have hc1 := hc.const; have hc2 := hc.func
      clear hI; have HB := Lib.hid hB; have HS := Lib.hid hS; clear hB hS
      exact Upd.of (ex_pick rfl h47) ⟨Below.refl _ _, h65⟩
  · intro env1 Sr1 wr1 hB1 hSr1 hF1
    have f0 : env1 0 = .pointer (some ⟨bx, 1, none⟩) := hF1 0 (by decide) rfl
    have f1 : env1 1 = .int .i64 0 := hF1 1 (by decide) rfl
    have f2 : env1 2 = .bool false := hF1 2 (by decide) rfl
    have f3 : env1 3 = .bool false := hF1 3 (by decide) rfl
    have f4 : env1 4 = .int .u64 (rootF d) := hF1 4 (by decide) rfl
    have f5 : env1 5 = .slice (some ⟨bd, od, none⟩) n cr := hF1 5 (by decide) rfl
    have f6 : env1 6 = .int .i64 (n : Nat) := hF1 6 (by decide) rfl
    have f7 : env1 7 = .pointer (some ⟨bx, 0, none⟩) := hF1 7 (by decide) rfl
    have f8 : env1 8 = .slice pp q.length cp := hF1 8 (by decide) rfl
    have f9 : env1 9 = .agg #[.int .i64 (n : Int), .slice pp q.length cp] := hF1 9 (by decide) rfl
    have f10 : env1 10 = .int .i64 (i : Int) := hF1 10 (by decide) rfl
    have f11 : env1 11 = .int .u64 y := hF1 11 (by decide) rfl
    have f12 : env1 12 = .agg #[.int .i64 (i : Int), .int .u64 y] := hF1 12 (by decide) rfl
    have f13 : env1 13 = .int .i64 c0 := hF1 13 (by decide) rfl
    have f14 : env1 14 = .bool (c0 == 0) := hF1 14 (by decide) rfl
    have f15 : env1 15 = .int .u64 y := hF1 15 (by decide) rfl
    have f16 : env1 16 = .slice (some ⟨bd, od, none⟩) n cr := hF1 16 (by decide) rfl
    have f17 : env1 17 = .int .i64 (i : Int) := hF1 17 (by decide) rfl
    have f18 : env1 18 = .pointer (some ⟨bd, od + i, none⟩) := hF1 18 (by decide) rfl
    have f19 : env1 19 = .int .u64 x := hF1 19 (by decide) rfl
    have f20 : env1 20 = .bool (y == x) := hF1 20 (by decide) rfl
    have f21 : env1 21 = .bool false := hF1 21 (by decide) rfl
    have f22 : env1 22 = .bool false := hF1 22 (by decide) rfl
    clear hF1
    simp only [List.take_succ_cons, List.take_nil, List.drop_nil, List.drop_succ_cons, putAll, Act.put, List.setIfInBounds_toArray, List.set_cons_succ, List.set_cons_zero, Nat.reduceAdd, f0, f1, f2, f3, f4, f5, f6, f7, f8, f9, f10, f11, f12, f13, f14, f15, f16, f17, f18, f19, f20, f21, f22]
    clear f0 f1 f2 f3 f4 f5 f6 f7 f8 f9 f10 f11 f12 f13 f14 f15 f16 f17 f18 f19 f20 f21 f22
    refine wpList_nil ?_
    have HCD := Lib.hid (((hB1).cell (p := ⟨bd, od + i, none⟩) HBD.out).trans HCD.out)
    have HBD := Lib.hid (Nat.lt_of_lt_of_le HBD.out hB1.size)
    have HD := Lib.hid (HD.out.later hB1)
    have HK := Lib.hid (HK.out.later hB1)
    have HP := Lib.hid (HP.out.later hB1)
    have HX := Lib.hid (HX.out.later hB1)
    have HLF := Lib.hid (HLF.out.later hB1)
    have HW := Lib.hid (HW.out.trans (hB1.mono HW.out.size))
    clear hB1 hSr1
    have hAl : Below wr1.heap.size wr1 (wr1.alloc (.cells #[] 33)) := (Below.refl _ _).alloc (Nat.le_refl _) _
    have hown0 : Own (Value.int .u64) wr1.heap.size 33 (wr1.alloc (.cells #[] 33)) (.slice (some ⟨wr1.heap.size, 0, none⟩) 0 0) [] := World.ownsRow_made wr1 #[] 0 (Nat.le_refl _) (by simp) rfl
    have HO := Lib.hid hown0
    have HR := Lib.hid (HP.out.later hAl)
    have hcl := (HX.out.later hAl).cell 0 (v := .slice pp q.length cp) rfl
    have HC1 : Hid (([] : List Int).length + (q).length ≤ maxLen) := by have hq9 := HREF.out.ln; show _ ≤ _; simp [maxLen]; omega
    have HC2 : Hid ((([] : List Int).length + (q).length) * 8 ≤ 140737488355328) := by have hq9 := HREF.out.ln; show _ ≤ _; simp; omega
    have HC3 : Hid (wr1.heap.size ≤ (wr1.alloc (.cells #[] 33)).heap.size) := by show _ ≤ _; simp
    clear hown0
    go_wp2_with (at_builtin; refine wpList_append_row rfl (.tmp 67) (.tmp 69) 22 rfl wr1.heap.size 33 (.int .u64 0) 8 Try.underlying22 (by kernel_rfl) rfl HO.out HR.out rfl rfl (fun _ => rfl) HC1.out HC2.out HC3.out (fun v3 w3 ho3 hb3 _ => Hid.out ?_))
    refine Lib.hid ?_
    rw [List.nil_append] at ho3
    have hb13 : Below wr1.heap.size wr1 w3 := hAl.trans hb3
    have hAl2 : Below w3.heap.size w3 (w3.alloc (.cells #[.int .u64 y] 33)) := (Below.refl _ _).alloc (Nat.le_refl _) _
    clear HO HR hcl HC1 HC2 HC3 hAl hb3
    have HO := Lib.hid (ho3.later hAl2)
    have HR : Hid (IsInts .u64 (fun _ => True) (w3.alloc (.cells #[.int .u64 y] 33)) (.slice (some ⟨w3.heap.size, 0, none⟩) 1 1) [y]) := IsRow.built _ _ [y] rfl trivial rfl rfl (by simp [maxLen])
    have hsz13 := hb13.size
    have HC1 : Hid ((q).length + ([y]).length ≤ maxLen) := by have hq9 := HREF.out.ln; show _ ≤ _; simp [maxLen]; omega
    have HC2 : Hid (((q).length + ([y]).length) * 8 ≤ 140737488355328) := by have hq9 := HREF.out.ln; show _ ≤ _; simp; omega
    have HC3 : Hid (wr1.heap.size ≤ (w3.alloc (.cells #[.int .u64 y] 33)).heap.size) := by show _ ≤ _; simp; try omega
    clear ho3
    go_wp2_with (at_builtin; refine wpList_append_row rfl (.tmp 70) (.tmp 72) 22 rfl wr1.heap.size 33 (.int .u64 0) 8 Try.underlying22 (by kernel_rfl) rfl HO.out HR.out rfl rfl (fun _ => rfl) HC1.out HC2.out HC3.out (fun v4 w4 ho4 hb4 _ => Hid.out ?_))
    refine Lib.hid ?_
    have hb14 : Below wr1.heap.size wr1 w4 := hb13.trans ((hAl2.mono hb13.size).trans hb4)
    obtain ⟨p13, c13, rfl, hlc13, hcm13, -⟩ := ho4.toRow.shape
    have HR13 : Hid (IsInts .u64 (fun _ => True) w4 (.slice p13 (q ++ [y]).length c13) (q ++ [y])) := ho4.toRow.wk (fun _ _ => trivial)
    generalize (q ++ [y]).length = m13 at *
    have HCD := Lib.hid (((hb14).cell (p := ⟨bd, od + i, none⟩) HBD.out).trans HCD.out)
    have HBD := Lib.hid (Nat.lt_of_lt_of_le HBD.out hb14.size)
    have HD := Lib.hid (HD.out.later hb14)
    have HK := Lib.hid (HK.out.later hb14)
    have HP := Lib.hid (HP.out.later hb14)
    have HX := Lib.hid (HX.out.later hb14)
    have HLF := Lib.hid (HLF.out.later hb14)
    have HW := Lib.hid (HW.out.trans (hb14.mono HW.out.size))
    clear hb14 hb13 hAl2 hb4 HO HR HC1 HC2 HC3 ho4 hsz13
    have hcm13 : c13 ≤ 9223372036854775807 := hcm13
    have hAl : Below w4.heap.size w4 (w4.alloc (.cells #[.int .u64 y] 33)) := (Below.refl _ _).alloc (Nat.le_refl _) _
    have HO : Hid (Own (Value.int .u64) w4.heap.size 33 (w4.alloc (.cells #[.int .u64 y] 33)) (.slice (some ⟨w4.heap.size, 0, none⟩) 1 1) [y]) := ⟨rfl, .inr ⟨w4.heap.size, 1, #[.int .u64 y], rfl, Nat.le_refl _, heap_alloc_new w4 _, Nat.le_refl _, by simp [maxLen], rfl, rfl⟩⟩
    have HR := Lib.hid (HP.out.later hAl)
    have hcl := (HX.out.later hAl).cell 0 (v := .slice pp q.length cp) rfl
    have HC1 : Hid (([y]).length + (q).length ≤ maxLen) := by have hq9 := HREF.out.ln; show _ ≤ _; simp [maxLen]; omega
    have HC2 : Hid ((([y]).length + (q).length) * 8 ≤ 140737488355328) := by have hq9 := HREF.out.ln; show _ ≤ _; simp; omega
    have HC3 : Hid (w4.heap.size ≤ (w4.alloc (.cells #[.int .u64 y] 33)).heap.size) := by show _ ≤ _; simp
    go_wp2_with (at_builtin; refine wpList_append_row rfl (.tmp 75) (.tmp 77) 22 rfl w4.heap.size 33 (.int .u64 0) 8 Try.underlying22 (by kernel_rfl) rfl HO.out HR.out rfl rfl (fun _ => rfl) HC1.out HC2.out HC3.out (fun v5 w5 ho5 hb5 _ => Hid.out ?_))
    refine Lib.hid ?_
    have hb45 : Below w4.heap.size w4 w5 := hAl.trans hb5
    obtain ⟨p14, c14, rfl, hlc14, hcm14, -⟩ := ho5.toRow.shape
    have HR14 : Hid (IsInts .u64 (fun _ => True) w5 (.slice p14 ([y] ++ q).length c14) ([y] ++ q)) := ho5.toRow.wk (fun _ _ => trivial)
    generalize ([y] ++ q).length = m14 at *
    have HCD := Lib.hid (((hb45).cell (p := ⟨bd, od + i, none⟩) HBD.out).trans HCD.out)
    have HBD := Lib.hid (Nat.lt_of_lt_of_le HBD.out hb45.size)
    have HD := Lib.hid (HD.out.later hb45)
    have HK := Lib.hid (HK.out.later hb45)
    have HP := Lib.hid (HP.out.later hb45)
    have HX := Lib.hid (HX.out.later hb45)
    have HLF := Lib.hid (HLF.out.later hb45)
    have HR13 := Lib.hid (HR13.out.later hb45)
    have HW := Lib.hid (HW.out.trans (hb45.mono HW.out.size))
    clear hb45 hAl hb5 HO HR HC1 HC2 HC3 ho5 hcl
    have hcm14 : c14 ≤ 9223372036854775807 := hcm14
    go_upto_region 12 with (fail)
    refine wp_region_text 18 [RKnown (.int .u64 (rootF d)) [(10, none)],
      RKnown (.slice (some ⟨bd, od, none⟩) n cr) [(8, none)],
      RKnown (.int .i64 (n : Nat)) [(80, some 1)],
      RKnown (.slice p13 m13 c13) [(13, none)],
      RKnown (.agg #[.int .i64 (n : Int), .slice p13 m13 c13]) [(81, some 2), (82, some 3)],
      RKnown (.agg #[.int .i64 (i : Int), .int .u64 x]) [(12, none)],
      RKnown (.int .i64 6) [(79, some 0), (83, some 4), (84, some 5)],
      RKnown (.bool false) [(85, some 6)],
      RKnown (.bool false) [(86, some 7)],
      RKnown (.int .u64 (rootF d)) [(10, none)],
      RKnown (.slice (some ⟨bd, od, none⟩) n cr) [(8, none)],
      RKnown (.int .i64 (n : Nat)) [(89, some 10)],
      RKnown (.slice p14 m14 c14) [(14, none)],
      RKnown (.agg #[.int .i64 (n : Int), .slice p14 m14 c14]) [(90, some 11), (91, some 12)],
      RKnown (.agg #[.int .i64 (i : Int), .int .u64 x]) [(12, none)],
      RKnown (.int .i64 6) [(88, some 9), (92, some 13), (93, some 14)],
      RKnown (.bool false) [(94, some 15)],
      RKnown (.bool false) [(87, some 8), (95, some 16)]] (by kernel_rfl) (by kernel_rfl) ?_ ?_
    · refine ⟨?_, ?_, ?_, ?_, ?_, ?_, ?_, ?_, ?_, ?_, ?_, ?_, ?_, ?_, ?_, ?_, ?_, ?_, trivial⟩
      · refine OpOk.grow rfl (GuardYes.none rfl) ?_
        intro ρ S w1 hc hB hS hI
        have h10 : ρ (.tmp 10) = .int .u64 (rootF d) := And.left hI
        clear hI; have HB := Lib.hid hB; have HS := Lib.hid hS; clear hB hS
        exact Upd.of (ex_move rfl) ⟨Below.refl _ _, h10⟩
      · refine OpOk.grow rfl (GuardYes.none rfl) ?_
        intro ρ S w1 hc hB hS hI
        have h8 : ρ (.tmp 8) = .slice (some ⟨bd, od, none⟩) n cr := And.left hI
        clear hI; have HB := Lib.hid hB; have HS := Lib.hid hS; clear hB hS
        exact Upd.of (ex_move rfl) ⟨Below.refl _ _, h8⟩
      · refine OpOk.grow rfl (GuardYes.none rfl) ?_
        intro ρ S w1 hc hB hS hI
        have h80 : ρ (.tmp 80) = .slice (some ⟨bd, od, none⟩) n cr := And.left hI
        clear hI; have HB := Lib.hid hB; have HS := Lib.hid hS; clear hB hS
        exact Upd.of (ex_len_slice rfl (by kernel_rfl) h80) ⟨Below.refl _ _, rfl⟩
      · refine OpOk.grow rfl (GuardYes.none rfl) ?_
        intro ρ S w1 hc hB hS hI
        have h13 : ρ (.tmp 13) = .slice p13 m13 c13 := And.left hI
        clear hI; have HB := Lib.hid hB; have HS := Lib.hid hS; clear hB hS
        exact Upd.of (ex_move rfl) ⟨Below.refl _ _, h13⟩
      · refine OpOk.grow rfl (GuardYes.none rfl) ?_
        intro ρ S w1 hc hB hS hI
        have h81 : ρ (.tmp 81) = .int .i64 (n : Nat) := And.left hI
        have h82 : ρ (.tmp 82) = .slice p13 m13 c13 := And.left (And.right hI)
        clear hI; have HB := Lib.hid hB; have HS := Lib.hid hS; clear hB hS
        refine Upd.hide fun R1 hR1 => ?_
        go_simp
        exact Upd.ok (hR1 _ _ ⟨Below.refl _ _, rfl⟩)
      · refine OpOk.grow rfl (GuardYes.none rfl) ?_
        intro ρ S w1 hc hB hS hI
        have h12 : ρ (.tmp 12) = .pointer (some ⟨bl, 0, none⟩) := And.left hI
        clear hI; have HB := Lib.hid hB; have HS := Lib.hid hS; clear hB hS
        have hcl0 := (HLF.out.later HB.out).cell 0 (v := .int .i64 (i : Int)) rfl
        have hcl1 := (HLF.out.later HB.out).cell 1 (v := .int .u64 x) rfl
        refine Upd.hide fun R1 hR1 => ?_
        go_simp
        exact Upd.ok (hR1 _ _ ⟨Below.refl _ _, rfl⟩)
      · refine OpOk.grow rfl (GuardYes.none rfl) ?_
        intro ρ S w1 hc hB hS hI
        have h79 : ρ (.tmp 79) = .int .u64 (rootF d) := And.left hI
        have h83 : ρ (.tmp 83) = .agg #[.int .i64 (n : Int), .slice p13 m13 c13] := And.left (And.right hI)
        have h84 : ρ (.tmp 84) = .agg #[.int .i64 (i : Int), .int .u64 x] := And.left (And.right (And.right hI))
        have hc1 := hc.const; have hc2 := hc.func
        clear hI; have HB := Lib.hid hB; have HS := Lib.hid hS; clear hB hS
        refine Upd.call (vs := #[.int .u64 (rootF d), .agg #[.int .i64 (n : Int), .slice p13 m13 c13], .agg #[.int .i64 (i : Int), .int .u64 x]]) rfl hc (by kernel_rfl) (by simp only [List.map_toArray, List.map_cons, List.map_nil, h79, h83, h84]) ?_
        refine (check_calls _ _ _ _ _ _ S _ (HR13.out.base HB.out HS.out)).mono ?_
        rintro e w2 ⟨rfl, hb2⟩
        exact ⟨_, rfl, hb2, congrArg (Value.int .i64) HREF.out.c1⟩
      · refine OpOk.grow rfl (GuardYes.none rfl) ?_
        intro ρ S w1 hc hB hS hI
        have h85 : ρ (.tmp 85) = .int .i64 6 := And.left hI
        have hc1 := hc.const; have hc2 := hc.func
        clear hI; have HB := Lib.hid hB; have HS := Lib.hid hS; clear hB hS
        refine Upd.hide fun R1 hR1 => ?_
        go_simp
        exact Upd.ok (hR1 _ _ ⟨Below.refl _ _, by first | rfl | simp⟩)
      · refine OpOk.grow rfl (GuardYes.none rfl) ?_
        intro ρ S w1 hc hB hS hI
        have h86 : ρ (.tmp 86) = .bool false := And.left hI
        clear hI; have HB := Lib.hid hB; have HS := Lib.hid hS; clear hB hS
        exact Upd.of (ex_move rfl) ⟨Below.refl _ _, h86⟩
      · refine OpOk.grow rfl (GuardYes.some rfl (fun _ _ _ h => h)) ?_
        intro ρ S w1 hc hB hS hI
        have h10 : ρ (.tmp 10) = .int .u64 (rootF d) := And.left hI
        clear hI; have HB := Lib.hid hB; have HS := Lib.hid hS; clear hB hS
        exact Upd.of (ex_move rfl) ⟨Below.refl _ _, h10⟩
      · refine OpOk.grow rfl (GuardYes.some rfl (fun _ _ _ h => h)) ?_
        intro ρ S w1 hc hB hS hI
        have h8 : ρ (.tmp 8) = .slice (some ⟨bd, od, none⟩) n cr := And.left hI
        clear hI; have HB := Lib.hid hB; have HS := Lib.hid hS; clear hB hS
        exact Upd.of (ex_move rfl) ⟨Below.refl _ _, h8⟩
      · refine OpOk.grow rfl (GuardYes.some rfl (fun _ _ _ h => h)) ?_
        intro ρ S w1 hc hB hS hI
        have h89 : ρ (.tmp 89) = .slice (some ⟨bd, od, none⟩) n cr := And.left hI
        clear hI; have HB := Lib.hid hB; have HS := Lib.hid hS; clear hB hS
        exact Upd.of (ex_len_slice rfl (by kernel_rfl) h89) ⟨Below.refl _ _, rfl⟩
      · refine OpOk.grow rfl (GuardYes.some rfl (fun _ _ _ h => h)) ?_
        intro ρ S w1 hc hB hS hI
        have h14 : ρ (.tmp 14) = .slice p14 m14 c14 := And.left hI
        clear hI; have HB := Lib.hid hB; have HS := Lib.hid hS; clear hB hS
        exact Upd.of (ex_move rfl) ⟨Below.refl _ _, h14⟩
      · refine OpOk.grow rfl (GuardYes.some rfl (fun _ _ _ h => h)) ?_
        intro ρ S w1 hc hB hS hI
        have h90 : ρ (.tmp 90) = .int .i64 (n : Nat) := And.left hI
        have h91 : ρ (.tmp 91) = .slice p14 m14 c14 := And.left (And.right hI)
        clear hI; have HB := Lib.hid hB; have HS := Lib.hid hS; clear hB hS
        refine Upd.hide fun R1 hR1 => ?_
        go_simp
        exact Upd.ok (hR1 _ _ ⟨Below.refl _ _, rfl⟩)
      · refine OpOk.grow rfl (GuardYes.some rfl (fun _ _ _ h => h)) ?_
        intro ρ S w1 hc hB hS hI
        have h12 : ρ (.tmp 12) = .pointer (some ⟨bl, 0, none⟩) := And.left hI
        clear hI; have HB := Lib.hid hB; have HS := Lib.hid hS; clear hB hS
        have hcl0 := (HLF.out.later HB.out).cell 0 (v := .int .i64 (i : Int)) rfl
        have hcl1 := (HLF.out.later HB.out).cell 1 (v := .int .u64 x) rfl
        refine Upd.hide fun R1 hR1 => ?_
        go_simp
        exact Upd.ok (hR1 _ _ ⟨Below.refl _ _, rfl⟩)
      · refine OpOk.grow rfl (GuardYes.some rfl (fun _ _ _ h => h)) ?_
        intro ρ S w1 hc hB hS hI
        have h88 : ρ (.tmp 88) = .int .u64 (rootF d) := And.left hI
        have h92 : ρ (.tmp 92) = .agg #[.int .i64 (n : Int), .slice p14 m14 c14] := And.left (And.right hI)
        have h93 : ρ (.tmp 93) = .agg #[.int .i64 (i : Int), .int .u64 x] := And.left (And.right (And.right hI))
        have hc1 := hc.const; have hc2 := hc.func
        clear hI; have HB := Lib.hid hB; have HS := Lib.hid hS; clear hB hS
        refine Upd.call (vs := #[.int .u64 (rootF d), .agg #[.int .i64 (n : Int), .slice p14 m14 c14], .agg #[.int .i64 (i : Int), .int .u64 x]]) rfl hc (by kernel_rfl) (by simp only [List.map_toArray, List.map_cons, List.map_nil, h88, h92, h93]) ?_
        refine (check_calls _ _ _ _ _ _ S _ (HR14.out.base HB.out HS.out)).mono ?_
        rintro e w2 ⟨rfl, hb2⟩
        exact ⟨_, rfl, hb2, congrArg (Value.int .i64) HREF.out.c2⟩
      · refine OpOk.grow rfl (GuardYes.some rfl (fun _ _ _ h => h)) ?_
        intro ρ S w1 hc hB hS hI
        have h94 : ρ (.tmp 94) = .int .i64 6 := And.left hI
        have hc1 := hc.const; have hc2 := hc.func
        clear hI; have HB := Lib.hid hB; have HS := Lib.hid hS; clear hB hS
        refine Upd.hide fun R1 hR1 => ?_
        go_simp
        exact Upd.ok (hR1 _ _ ⟨Below.refl _ _, by first | rfl | simp⟩)
      · refine OpOk.grow rfl (GuardYes.none rfl) ?_
        intro ρ S w1 hc hB hS hI
        have h87 : ρ (.tmp 87) = .bool false := And.left hI
        have h95 : ρ (.tmp 95) = .bool false := And.left (And.right hI)
        have hc1 := hc.const; have hc2 := hc.func
        clear hI; have HB := Lib.hid hB; have HS := Lib.hid hS; clear hB hS
        exact Upd.of (ex_pick rfl h87) ⟨Below.refl _ _, h95⟩
    · intro env2 Sr2 wr2 hB2 hSr2 hF2
      have f0 : env2 0 = .int .u64 (rootF d) := hF2 0 (by decide) rfl
      have f1 : env2 1 = .slice (some ⟨bd, od, none⟩) n cr := hF2 1 (by decide) rfl
      have f2 : env2 2 = .int .i64 (n : Nat) := hF2 2 (by decide) rfl
      have f3 : env2 3 = .slice p13 m13 c13 := hF2 3 (by decide) rfl
      have f4 : env2 4 = .agg #[.int .i64 (n : Int), .slice p13 m13 c13] := hF2 4 (by decide) rfl
      have f5 : env2 5 = .agg #[.int .i64 (i : Int), .int .u64 x] := hF2 5 (by decide) rfl
      have f6 : env2 6 = .int .i64 6 := hF2 6 (by decide) rfl
      have f7 : env2 7 = .bool false := hF2 7 (by decide) rfl
      have f8 : env2 8 = .bool false := hF2 8 (by decide) rfl
      have f9 : env2 9 = .int .u64 (rootF d) := hF2 9 (by decide) rfl
      have f10 : env2 10 = .slice (some ⟨bd, od, none⟩) n cr := hF2 10 (by decide) rfl
      have f11 : env2 11 = .int .i64 (n : Nat) := hF2 11 (by decide) rfl
      have f12 : env2 12 = .slice p14 m14 c14 := hF2 12 (by decide) rfl
      have f13 : env2 13 = .agg #[.int .i64 (n : Int), .slice p14 m14 c14] := hF2 13 (by decide) rfl
      have f14 : env2 14 = .agg #[.int .i64 (i : Int), .int .u64 x] := hF2 14 (by decide) rfl
      have f15 : env2 15 = .int .i64 6 := hF2 15 (by decide) rfl
      have f16 : env2 16 = .bool false := hF2 16 (by decide) rfl
      have f17 : env2 17 = .bool false := hF2 17 (by decide) rfl
      clear hF2
      simp only [List.take_succ_cons, List.take_nil, List.drop_nil, List.drop_succ_cons, putAll, Act.put, List.setIfInBounds_toArray, List.set_cons_succ, List.set_cons_zero, Nat.reduceAdd, f0, f1, f2, f3, f4, f5, f6, f7, f8, f9, f10, f11, f12, f13, f14, f15, f16, f17]
      clear f0 f1 f2 f3 f4 f5 f6 f7 f8 f9 f10 f11 f12 f13 f14 f15 f16 f17
      refine wpList_nil ?_
      have HCD := Lib.hid (((hB2).cell (p := ⟨bd, od + i, none⟩) HBD.out).trans HCD.out)
      have HBD := Lib.hid (Nat.lt_of_lt_of_le HBD.out hB2.size)
      have HD := Lib.hid (HD.out.later hB2)
      have HK := Lib.hid (HK.out.later hB2)
      have HP := Lib.hid (HP.out.later hB2)
      have HX := Lib.hid (HX.out.later hB2)
      have HLF := Lib.hid (HLF.out.later hB2)
      have HW := Lib.hid (HW.out.trans (hB2.mono HW.out.size))
      clear hB2 hSr2

      have hcl := HX.out.cell 0 (v := .slice pp q.length cp) rfl
      by_cases hm : q.length = 0
      · have hn := HREF.out.nl (List.eq_nil_of_length_eq_zero hm)
        have e4 : ((q.length : Int) == 0) = true := by rw [hm]; rfl
        have e5 : ((n : Int) == 1) = true := by rw [hn]; rfl
        go_wp2
        go_ret
        exact ⟨rfl, HW.out⟩
      · have e4 : ((q.length : Int) == 0) = false := beq_eq_false_iff_ne.2 (by omega)
        have hk2 := HK.out.cell 2 (v := .int .u16 (k2 : Int)) rfl
        go_upto_region 17 with (fail)
        obtain ⟨t, ht⟩ : ∃ t, t = k2 % q.length := ⟨_, rfl⟩
        rw [show ((k2 : Int) % (q.length : Int)) = (t : Int) from by rw [ht]; omega]
        have htn : t < q.length := by rw [ht]; exact Nat.mod_lt _ (by omega)
        clear ht hk2 e4 hcl
        obtain ⟨z, hz⟩ : ∃ z, q[t]? = some z := ⟨_, List.getElem?_eq_getElem htn⟩
        obtain ⟨c1, hc1⟩ : ∃ c1, c1 = (if y = z then (0 : Int) else 6) := ⟨_, rfl⟩
        have HC3 : Hid (checkF (rootF d) (n : Int) (i : Int) x (q.set t y) = c1) := by rw [hc1]; exact HREF.out.c3 t z hz
        have HC4 : Hid (checkF (rootF d) (n : Int) (i : Int) x (q.take (q.length - 1)) = 6) := HREF.out.c4 (fun h => hm (by rw [h]; rfl))
        have HC30 : Hid ((c1 == 0) = (y == z)) := by rw [hc1]; exact ite6 y z
        clear hc1
        have hAl : Below wr2.heap.size wr2 (wr2.alloc (.cells #[] 33)) := (Below.refl _ _).alloc (Nat.le_refl _) _
        have HO : Hid (Own (Value.int .u64) wr2.heap.size 33 (wr2.alloc (.cells #[] 33)) (.slice (some ⟨wr2.heap.size, 0, none⟩) 0 0) []) := World.ownsRow_made wr2 #[] 0 (Nat.le_refl _) (by simp) rfl
        have HR := Lib.hid (HP.out.later hAl)
        have hcl := (HX.out.later hAl).cell 0 (v := .slice pp q.length cp) rfl
        have HC1 : Hid (([] : List Int).length + (q).length ≤ maxLen) := by have hq9 := HREF.out.ln; show _ ≤ _; simp [maxLen]; omega
        have HC2 : Hid ((([] : List Int).length + (q).length) * 8 ≤ 140737488355328) := by have hq9 := HREF.out.ln; show _ ≤ _; simp; omega
        have HC9 : Hid (wr2.heap.size ≤ (wr2.alloc (.cells #[] 33)).heap.size) := by show _ ≤ _; simp
        go_wp2_with (at_builtin; refine wpList_append_row rfl (.tmp 114) (.tmp 116) 22 rfl wr2.heap.size 33 (.int .u64 0) 8 Try.underlying22 (by kernel_rfl) rfl HO.out HR.out rfl rfl (fun _ => rfl) HC1.out HC2.out HC9.out (fun v7 w7 ho7 hb7 _ => Hid.out ?_))
        refine Lib.hid ?_
        rw [List.nil_append] at ho7
        have hb27 : Below wr2.heap.size wr2 w7 := hAl.trans hb7
        obtain ⟨g, cap, rfl, hg1, hg2, hgc, hgm, hcell, hfree, hset⟩ := ho7.cells (by omega)
        have hct := hcell t z hz
        have hft := hfree t
        have hgm : cap ≤ 9223372036854775807 := hgm
        have hs := hset t y htn
        have HS3 := Lib.hid hs.toRow
        have hbs : Below wr2.heap.size wr2 (w7.setCell ⟨g, t, none⟩ (.int .u64 y)) := hb27.setCell hg1 _
        clear hcell hfree hset hs hb7 hb27 hAl ho7 HO HR HC1 HC2 HC9 hcl
        have hrun : Sem.run Try.prog (Instr.indexAt 22 (.slice (some ⟨g, 0, none⟩) q.length cap) (.int .i64 (t : Int))) w7 = .ok (.pointer (some ⟨g, t, none⟩)) w7 := by
          refine (run_indexAt_slice (P := Try.prog) (w := w7) 22 ⟨g, 0, none⟩ q.length cap .i64 (t : Int) (by kernel_rfl)).trans ?_
          rw [if_pos ⟨by omega, by omega⟩, run_sizeOf (P := Try.prog) (w := w7) (sz := 1) (by kernel_rfl)]
          show Result.ok _ _ = _
          simp [Addr.add]; exact fun h => h.symm
        go_upto_region 19 with (fail)
        have HCD := Lib.hid (((hbs).cell (p := ⟨bd, od + i, none⟩) HBD.out).trans HCD.out)
        have HBD := Lib.hid (Nat.lt_of_lt_of_le HBD.out hbs.size)
        have HD := Lib.hid (HD.out.later hbs)
        have HK := Lib.hid (HK.out.later hbs)
        have HP := Lib.hid (HP.out.later hbs)
        have HX := Lib.hid (HX.out.later hbs)
        have HLF := Lib.hid (HLF.out.later hbs)
        have HW := Lib.hid (HW.out.trans (hbs.mono HW.out.size))
        have HE : Hid (IsInts .u64 (fun b => wr2.heap.size ≤ b) (w7.setCell ⟨g, t, none⟩ (.int .u64 y)) (.slice (some ⟨g, 0, none⟩) q.length cap) (q.set t y)) := HS3.out
        clear HS3 hrun hct hft hbs
        generalize w7.setCell ⟨g, t, none⟩ (.int .u64 y) = w8 at *
        obtain ⟨bq, oq, rfl, -, hbq, hcq⟩ := HP.out.cellAt hz
        have HCQ := Lib.hid hcq
        have HBQ := Lib.hid hbq
        have hwn : IntKind.i64.wrap ((q.length : Int) - 1) = ((q.length - 1 : Nat) : Int) := by
          have hq9 := HREF.out.ln
          rw [show ((q.length - 1 : Nat) : Int) = (q.length : Int) - 1 from by omega]
          exact IntWalk.i64_in _ (by omega)
        have HWN := Lib.hid hwn
        clear hcq hbq hwn hz
        refine wp_region_table 36 [RKnown (.int .u64 (rootF d)) [(10, none)],
          RKnown (.slice (some ⟨bd, od, none⟩) n cr) [(8, none)],
          RKnown (.int .i64 (n : Nat)) [(123, some 1)],
          RKnown (.slice (some ⟨g, 0, none⟩) q.length cap) [(16, none)],
          RKnown (.agg #[.int .i64 (n : Int), .slice (some ⟨g, 0, none⟩) q.length cap]) [(124, some 2), (125, some 3)],
          RKnown (.agg #[.int .i64 (i : Int), .int .u64 x]) [(12, none)],
          RKnown (.int .i64 c1) [(122, some 0), (126, some 4), (127, some 5)],
          RKnown (.bool (c1 == 0)) [(128, some 6)],
          RKnown (.int .u64 y) [(2, none)],
          RKnown (.pointer (some ⟨bx, 0, none⟩)) [(11, none)],
          RKnown (.slice (some ⟨bq, oq, none⟩) q.length cp) [(131, some 9)],
          RKnown (.int .i64 (t : Int)) [(15, none)],
          RKnown (.pointer (some ⟨bq, oq + t, none⟩)) [(132, some 10), (133, some 11)],
          RKnown (.int .u64 z) [(134, some 12)],
          RKnown (.bool (y == z)) [(130, some 8), (135, some 13)],
          RKnown (.bool true) [(129, some 7), (136, some 14)],
          RKnown (.bool true) [(137, some 15)],
          RKnown (.int .u64 (rootF d)) [(10, none)],
          RKnown (.slice (some ⟨bd, od, none⟩) n cr) [(8, none)],
          RKnown (.int .i64 (n : Nat)) [(140, some 18)],
          RKnown (.pointer (some ⟨bx, 0, none⟩)) [(11, none)],
          RKnown (.slice (some ⟨bq, oq, none⟩) q.length cp) [(142, some 20)],
          RKnown (.pointer (some ⟨bx, 0, none⟩)) [(11, none)],
          RKnown (.slice (some ⟨bq, oq, none⟩) q.length cp) [(144, some 22)],
          RKnown (.int .i64 (q.length : Nat)) [(145, some 23)],
          RKnown (.int .i64 ((q.length - 1 : Nat) : Int)) [(146, some 24)],
          RKnown (.slice (some ⟨bq, oq, none⟩) (q.length - 1) cp) [(143, some 21), (147, some 25)],
          RKnown (.agg #[.int .i64 (n : Int), .slice (some ⟨bq, oq, none⟩) (q.length - 1) cp]) [(141, some 19), (148, some 26)],
          RKnown (.agg #[.int .i64 (i : Int), .int .u64 x]) [(12, none)],
          RKnown (.int .i64 6) [(139, some 17), (149, some 27), (150, some 28)],
          RKnown (.bool true) [(151, some 29)],
          RKnown (.bool true) [(138, some 16), (152, some 30)],
          RKnown (.bool true) [(153, some 31)],
          RKnown (.bool true) [(7, none)],
          RKnown (.bool true) [(154, some 32), (155, some 33)],
          RKnown (.bool true) [(156, some 34)]] (by kernel_rfl) (by kernel_rfl) (by kernel_rfl) ?_ ?_
        · refine ⟨?_, ?_, ?_, ?_, ?_, ?_, ?_, ?_, ?_, ?_, ?_, ?_, ?_, ?_, ?_, ?_, ?_, ?_, ?_, ?_, ?_, ?_, ?_, ?_, ?_, ?_, ?_, ?_, ?_, ?_, ?_, ?_, ?_, ?_, ?_, ?_, trivial⟩
          · refine OpOk.grow rfl (GuardYes.none rfl) ?_
            intro ρ S w1 hc hB hS hI
            have h10 : ρ (.tmp 10) = .int .u64 (rootF d) := And.left hI
            clear hI; have HB := Lib.hid hB; have HS := Lib.hid hS; clear hB hS
            exact Upd.of (ex_move rfl) ⟨Below.refl _ _, h10⟩
          · refine OpOk.grow rfl (GuardYes.none rfl) ?_
            intro ρ S w1 hc hB hS hI
            have h8 : ρ (.tmp 8) = .slice (some ⟨bd, od, none⟩) n cr := And.left hI
            clear hI; have HB := Lib.hid hB; have HS := Lib.hid hS; clear hB hS
            exact Upd.of (ex_move rfl) ⟨Below.refl _ _, h8⟩
          · refine OpOk.grow rfl (GuardYes.none rfl) ?_
            intro ρ S w1 hc hB hS hI
            have h123 : ρ (.tmp 123) = .slice (some ⟨bd, od, none⟩) n cr := And.left hI
            clear hI; have HB := Lib.hid hB; have HS := Lib.hid hS; clear hB hS
            exact Upd.of (ex_len_slice rfl (by kernel_rfl) h123) ⟨Below.refl _ _, rfl⟩
          · refine OpOk.grow rfl (GuardYes.none rfl) ?_
            intro ρ S w1 hc hB hS hI
            have h16 : ρ (.tmp 16) = .slice (some ⟨g, 0, none⟩) q.length cap := And.left hI
            clear hI; have HB := Lib.hid hB; have HS := Lib.hid hS; clear hB hS
            exact Upd.of (ex_move rfl) ⟨Below.refl _ _, h16⟩
          · refine OpOk.grow rfl (GuardYes.none rfl) ?_
            intro ρ S w1 hc hB hS hI
            have h124 : ρ (.tmp 124) = .int .i64 (n : Nat) := And.left hI
            have h125 : ρ (.tmp 125) = .slice (some ⟨g, 0, none⟩) q.length cap := And.left (And.right hI)
            clear hI; have HB := Lib.hid hB; have HS := Lib.hid hS; clear hB hS
            refine Upd.hide fun R1 hR1 => ?_
            go_simp
            exact Upd.ok (hR1 _ _ ⟨Below.refl _ _, rfl⟩)
          · refine OpOk.grow rfl (GuardYes.none rfl) ?_
            intro ρ S w1 hc hB hS hI
            have h12 : ρ (.tmp 12) = .pointer (some ⟨bl, 0, none⟩) := And.left hI
            clear hI; have HB := Lib.hid hB; have HS := Lib.hid hS; clear hB hS
            have hcl0 := (HLF.out.later HB.out).cell 0 (v := .int .i64 (i : Int)) rfl
            have hcl1 := (HLF.out.later HB.out).cell 1 (v := .int .u64 x) rfl
            refine Upd.hide fun R1 hR1 => ?_
            go_simp
            exact Upd.ok (hR1 _ _ ⟨Below.refl _ _, rfl⟩)
          · refine OpOk.grow rfl (GuardYes.none rfl) ?_
            intro ρ S w1 hc hB hS hI
            have h122 : ρ (.tmp 122) = .int .u64 (rootF d) := And.left hI
            have h126 : ρ (.tmp 126) = .agg #[.int .i64 (n : Int), .slice (some ⟨g, 0, none⟩) q.length cap] := And.left (And.right hI)
            have h127 : ρ (.tmp 127) = .agg #[.int .i64 (i : Int), .int .u64 x] := And.left (And.right (And.right hI))
            have hc1 := hc.const; have hc2 := hc.func
            clear hI; have HB := Lib.hid hB; have HS := Lib.hid hS; clear hB hS
            refine Upd.call (vs := #[.int .u64 (rootF d), .agg #[.int .i64 (n : Int), .slice (some ⟨g, 0, none⟩) q.length cap], .agg #[.int .i64 (i : Int), .int .u64 x]]) rfl hc (by kernel_rfl) (by simp only [List.map_toArray, List.map_cons, List.map_nil, h122, h126, h127]) ?_
            refine (check_calls _ _ _ _ _ _ S _ (HE.out.base HB.out HS.out)).mono ?_
            rintro e w2 ⟨rfl, hb2⟩
            exact ⟨_, rfl, hb2, congrArg (Value.int .i64) HC3.out⟩
          · refine OpOk.grow rfl (GuardYes.none rfl) ?_
            intro ρ S w1 hc hB hS hI
            have h128 : ρ (.tmp 128) = .int .i64 c1 := And.left hI
            have hc1 := hc.const; have hc2 := hc.func
            clear hI; have HB := Lib.hid hB; have HS := Lib.hid hS; clear hB hS
            refine Upd.hide fun R1 hR1 => ?_
            go_simp
            exact Upd.ok (hR1 _ _ ⟨Below.refl _ _, rfl⟩)
          · refine OpOk.grow rfl (GuardYes.none rfl) ?_
            intro ρ S w1 hc hB hS hI
            have h2 : ρ (.tmp 2) = .int .u64 y := And.left hI
            clear hI; have HB := Lib.hid hB; have HS := Lib.hid hS; clear hB hS
            exact Upd.of (ex_move rfl) ⟨Below.refl _ _, h2⟩
          · refine OpOk.grow rfl (GuardYes.none rfl) ?_
            intro ρ S w1 hc hB hS hI
            have h11 : ρ (.tmp 11) = .pointer (some ⟨bx, 0, none⟩) := And.left hI
            clear hI; have HB := Lib.hid hB; have HS := Lib.hid hS; clear hB hS
            refine Upd.hide fun R1 hR1 => ?_
            go_simp
            exact Upd.ok (hR1 _ _ ⟨Below.refl _ _, rfl⟩)
          · refine OpOk.grow rfl (GuardYes.none rfl) ?_
            intro ρ S w1 hc hB hS hI
            have h131 : ρ (.tmp 131) = .pointer (some ⟨bx, 0, none⟩) := And.left hI
            clear hI; have HB := Lib.hid hB; have HS := Lib.hid hS; clear hB hS
            have hcl := (HX.out.later HB.out).cell 0 (v := .slice (some ⟨bq, oq, none⟩) q.length cp) rfl
            refine Upd.hide fun R1 hR1 => ?_
            go_simp
            exact Upd.ok (hR1 _ _ ⟨Below.refl _ _, rfl⟩)
          · refine OpOk.grow rfl (GuardYes.none rfl) ?_
            intro ρ S w1 hc hB hS hI
            have h15 : ρ (.tmp 15) = .int .i64 (t : Int) := And.left hI
            clear hI; have HB := Lib.hid hB; have HS := Lib.hid hS; clear hB hS
            exact Upd.of (ex_move rfl) ⟨Below.refl _ _, h15⟩
          · refine OpOk.grow rfl (GuardYes.none rfl) ?_
            intro ρ S w1 hc hB hS hI
            have h132 : ρ (.tmp 132) = .slice (some ⟨bq, oq, none⟩) q.length cp := And.left hI
            have h133 : ρ (.tmp 133) = .int .i64 (t : Int) := And.left (And.right hI)
            clear hI; have HB := Lib.hid hB; have HS := Lib.hid hS; clear hB hS
            refine Upd.hide fun R1 hR1 => ?_
            go_simp
            exact Upd.ok (hR1 _ _ ⟨Below.refl _ _, rfl⟩)
          · refine OpOk.grow rfl (GuardYes.none rfl) ?_
            intro ρ S w1 hc hB hS hI
            have h134 : ρ (.tmp 134) = .pointer (some ⟨bq, oq + t, none⟩) := And.left hI
            clear hI; have HB := Lib.hid hB; have HS := Lib.hid hS; clear hB hS
            have hcl : w1.cell? ⟨bq, oq + t, none⟩ = some (.int .u64 z) := ((HB.out).cell (p := ⟨bq, oq + t, none⟩) HBQ.out).trans HCQ.out
            refine Upd.hide fun R1 hR1 => ?_
            go_simp
            exact Upd.ok (hR1 _ _ ⟨Below.refl _ _, rfl⟩)
          · refine OpOk.grow rfl (GuardYes.none rfl) ?_
            intro ρ S w1 hc hB hS hI
            have h130 : ρ (.tmp 130) = .int .u64 y := And.left hI
            have h135 : ρ (.tmp 135) = .int .u64 z := And.left (And.right hI)
            clear hI; have HB := Lib.hid hB; have HS := Lib.hid hS; clear hB hS
            refine Upd.hide fun R1 hR1 => ?_
            go_simp
            exact Upd.ok (hR1 _ _ ⟨Below.refl _ _, rfl⟩)
          · refine OpOk.grow rfl (GuardYes.none rfl) ?_
            intro ρ S w1 hc hB hS hI
            have h129 : ρ (.tmp 129) = .bool (c1 == 0) := And.left hI
            have h136 : ρ (.tmp 136) = .bool (y == z) := And.left (And.right hI)
            clear hI; have HB := Lib.hid hB; have HS := Lib.hid hS; clear hB hS
            have heq := HC30.out
            refine Upd.hide fun R1 hR1 => ?_
            go_simp
            exact Upd.ok (hR1 _ _ ⟨Below.refl _ _, by first | rfl | simp⟩)
          · refine OpOk.grow rfl (GuardYes.none rfl) ?_
            intro ρ S w1 hc hB hS hI
            have h137 : ρ (.tmp 137) = .bool true := And.left hI
            clear hI; have HB := Lib.hid hB; have HS := Lib.hid hS; clear hB hS
            exact Upd.of (ex_move rfl) ⟨Below.refl _ _, h137⟩
          · refine OpOk.grow rfl (GuardYes.some rfl (fun _ _ _ h => h)) ?_
            intro ρ S w1 hc hB hS hI
            have h10 : ρ (.tmp 10) = .int .u64 (rootF d) := And.left hI
            clear hI; have HB := Lib.hid hB; have HS := Lib.hid hS; clear hB hS
            exact Upd.of (ex_move rfl) ⟨Below.refl _ _, h10⟩
          · refine OpOk.grow rfl (GuardYes.some rfl (fun _ _ _ h => h)) ?_
            intro ρ S w1 hc hB hS hI
            have h8 : ρ (.tmp 8) = .slice (some ⟨bd, od, none⟩) n cr := And.left hI
            clear hI; have HB := Lib.hid hB; have HS := Lib.hid hS; clear hB hS
            exact Upd.of (ex_move rfl) ⟨Below.refl _ _, h8⟩
          · refine OpOk.grow rfl (GuardYes.some rfl (fun _ _ _ h => h)) ?_
            intro ρ S w1 hc hB hS hI
            have h140 : ρ (.tmp 140) = .slice (some ⟨bd, od, none⟩) n cr := And.left hI
            clear hI; have HB := Lib.hid hB; have HS := Lib.hid hS; clear hB hS
            exact Upd.of (ex_len_slice rfl (by kernel_rfl) h140) ⟨Below.refl _ _, rfl⟩
          · refine OpOk.grow rfl (GuardYes.some rfl (fun _ _ _ h => h)) ?_
            intro ρ S w1 hc hB hS hI
            have h11 : ρ (.tmp 11) = .pointer (some ⟨bx, 0, none⟩) := And.left hI
            clear hI; have HB := Lib.hid hB; have HS := Lib.hid hS; clear hB hS
            refine Upd.hide fun R1 hR1 => ?_
            go_simp
            exact Upd.ok (hR1 _ _ ⟨Below.refl _ _, rfl⟩)
          · refine OpOk.grow rfl (GuardYes.some rfl (fun _ _ _ h => h)) ?_
            intro ρ S w1 hc hB hS hI
            have h142 : ρ (.tmp 142) = .pointer (some ⟨bx, 0, none⟩) := And.left hI
            clear hI; have HB := Lib.hid hB; have HS := Lib.hid hS; clear hB hS
            have hcl := (HX.out.later HB.out).cell 0 (v := .slice (some ⟨bq, oq, none⟩) q.length cp) rfl
            refine Upd.hide fun R1 hR1 => ?_
            go_simp
            exact Upd.ok (hR1 _ _ ⟨Below.refl _ _, rfl⟩)
          · refine OpOk.grow rfl (GuardYes.some rfl (fun _ _ _ h => h)) ?_
            intro ρ S w1 hc hB hS hI
            have h11 : ρ (.tmp 11) = .pointer (some ⟨bx, 0, none⟩) := And.left hI
            clear hI; have HB := Lib.hid hB; have HS := Lib.hid hS; clear hB hS
            refine Upd.hide fun R1 hR1 => ?_
            go_simp
            exact Upd.ok (hR1 _ _ ⟨Below.refl _ _, rfl⟩)
          · refine OpOk.grow rfl (GuardYes.some rfl (fun _ _ _ h => h)) ?_
            intro ρ S w1 hc hB hS hI
            have h144 : ρ (.tmp 144) = .pointer (some ⟨bx, 0, none⟩) := And.left hI
            clear hI; have HB := Lib.hid hB; have HS := Lib.hid hS; clear hB hS
            have hcl := (HX.out.later HB.out).cell 0 (v := .slice (some ⟨bq, oq, none⟩) q.length cp) rfl
            refine Upd.hide fun R1 hR1 => ?_
            go_simp
            exact Upd.ok (hR1 _ _ ⟨Below.refl _ _, rfl⟩)
          · refine OpOk.grow rfl (GuardYes.some rfl (fun _ _ _ h => h)) ?_
            intro ρ S w1 hc hB hS hI
            have h145 : ρ (.tmp 145) = .slice (some ⟨bq, oq, none⟩) q.length cp := And.left hI
            clear hI; have HB := Lib.hid hB; have HS := Lib.hid hS; clear hB hS
            exact Upd.of (ex_len_slice rfl (by kernel_rfl) h145) ⟨Below.refl _ _, rfl⟩
          · refine OpOk.grow rfl (GuardYes.some rfl (fun _ _ _ h => h)) ?_
            intro ρ S w1 hc hB hS hI
            have h146 : ρ (.tmp 146) = .int .i64 (q.length : Nat) := And.left hI
            have hc1 := hc.const; have hc2 := hc.func
            clear hI; have HB := Lib.hid hB; have HS := Lib.hid hS; clear hB hS
            have hwn := HWN.out
            refine Upd.hide fun R1 hR1 => ?_
            go_simp
            exact Upd.ok (hR1 _ _ ⟨Below.refl _ _, rfl⟩)
          · refine OpOk.grow rfl (GuardYes.some rfl (fun _ _ _ h => h)) ?_
            intro ρ S w1 hc hB hS hI
            have h143 : ρ (.tmp 143) = .slice (some ⟨bq, oq, none⟩) q.length cp := And.left hI
            have h147 : ρ (.tmp 147) = .int .i64 ((q.length - 1 : Nat) : Int) := And.left (And.right hI)
            clear hI; have HB := Lib.hid hB; have HS := Lib.hid hS; clear hB hS
            exact Upd.of (ex_slice_hi (sz := 1) rfl Try.underlying22 (by kernel_rfl) h143 h147 (by omega)) ⟨Below.refl _ _, rfl⟩
          · refine OpOk.grow rfl (GuardYes.some rfl (fun _ _ _ h => h)) ?_
            intro ρ S w1 hc hB hS hI
            have h141 : ρ (.tmp 141) = .int .i64 (n : Nat) := And.left hI
            have h148 : ρ (.tmp 148) = .slice (some ⟨bq, oq, none⟩) (q.length - 1) cp := And.left (And.right hI)
            clear hI; have HB := Lib.hid hB; have HS := Lib.hid hS; clear hB hS
            refine Upd.hide fun R1 hR1 => ?_
            go_simp
            exact Upd.ok (hR1 _ _ ⟨Below.refl _ _, rfl⟩)
          · refine OpOk.grow rfl (GuardYes.some rfl (fun _ _ _ h => h)) ?_
            intro ρ S w1 hc hB hS hI
            have h12 : ρ (.tmp 12) = .pointer (some ⟨bl, 0, none⟩) := And.left hI
            clear hI; have HB := Lib.hid hB; have HS := Lib.hid hS; clear hB hS
            have hcl0 := (HLF.out.later HB.out).cell 0 (v := .int .i64 (i : Int)) rfl
            have hcl1 := (HLF.out.later HB.out).cell 1 (v := .int .u64 x) rfl
            refine Upd.hide fun R1 hR1 => ?_
            go_simp
            exact Upd.ok (hR1 _ _ ⟨Below.refl _ _, rfl⟩)
          · refine OpOk.grow rfl (GuardYes.some rfl (fun _ _ _ h => h)) ?_
            intro ρ S w1 hc hB hS hI
            have h139 : ρ (.tmp 139) = .int .u64 (rootF d) := And.left hI
            have h149 : ρ (.tmp 149) = .agg #[.int .i64 (n : Int), .slice (some ⟨bq, oq, none⟩) (q.length - 1) cp] := And.left (And.right hI)
            have h150 : ρ (.tmp 150) = .agg #[.int .i64 (i : Int), .int .u64 x] := And.left (And.right (And.right hI))
            have hc1 := hc.const; have hc2 := hc.func
            clear hI; have HB := Lib.hid hB; have HS := Lib.hid hS; clear hB hS
            refine Upd.call (vs := #[.int .u64 (rootF d), .agg #[.int .i64 (n : Int), .slice (some ⟨bq, oq, none⟩) (q.length - 1) cp], .agg #[.int .i64 (i : Int), .int .u64 x]]) rfl hc (by kernel_rfl) (by simp only [List.map_toArray, List.map_cons, List.map_nil, h139, h149, h150]) ?_
            refine (check_calls _ _ _ _ _ _ S _ ((HP.out.base HB.out HS.out).hi (q.length - 1) (by omega))).mono ?_
            rintro e w2 ⟨rfl, hb2⟩
            exact ⟨_, rfl, hb2, congrArg (Value.int .i64) HC4.out⟩
          · refine OpOk.grow rfl (GuardYes.some rfl (fun _ _ _ h => h)) ?_
            intro ρ S w1 hc hB hS hI
            have h151 : ρ (.tmp 151) = .int .i64 6 := And.left hI
            have hc1 := hc.const; have hc2 := hc.func
            clear hI; have HB := Lib.hid hB; have HS := Lib.hid hS; clear hB hS
            refine Upd.hide fun R1 hR1 => ?_
            go_simp
            exact Upd.ok (hR1 _ _ ⟨Below.refl _ _, by first | rfl | simp⟩)
          · refine OpOk.grow rfl (GuardYes.none rfl) ?_
            intro ρ S w1 hc hB hS hI
            have h138 : ρ (.tmp 138) = .bool true := And.left hI
            have h152 : ρ (.tmp 152) = .bool true := And.left (And.right hI)
            have hc1 := hc.const; have hc2 := hc.func
            clear hI; have HB := Lib.hid hB; have HS := Lib.hid hS; clear hB hS
            exact Upd.of (ex_pick rfl h138) ⟨Below.refl _ _, h152⟩
          · refine OpOk.grow rfl (GuardYes.none rfl) ?_
            intro ρ S w1 hc hB hS hI
            have h153 : ρ (.tmp 153) = .bool true := And.left hI
            clear hI; have HB := Lib.hid hB; have HS := Lib.hid hS; clear hB hS
            exact Upd.of (ex_move rfl) ⟨Below.refl _ _, h153⟩
          · refine OpOk.grow rfl (GuardYes.some rfl (fun _ _ _ h => h)) ?_
            intro ρ S w1 hc hB hS hI
            have h7 : ρ (.tmp 7) = .bool true := And.left hI
            clear hI; have HB := Lib.hid hB; have HS := Lib.hid hS; clear hB hS
            exact Upd.of (ex_move rfl) ⟨Below.refl _ _, h7⟩
          · refine OpOk.grow rfl (GuardYes.none rfl) ?_
            intro ρ S w1 hc hB hS hI
            have h154 : ρ (.tmp 154) = .bool true := And.left hI
            have h155 : ρ (.tmp 155) = .bool true := And.left (And.right hI)
            have hc1 := hc.const; have hc2 := hc.func
            clear hI; have HB := Lib.hid hB; have HS := Lib.hid hS; clear hB hS
            exact Upd.of (ex_pick rfl h154) ⟨Below.refl _ _, h155⟩
          · refine OpOk.grow rfl (GuardYes.none rfl) ?_
            intro ρ S w1 hc hB hS hI
            have h156 : ρ (.tmp 156) = .bool true := And.left hI
            clear hI; have HB := Lib.hid hB; have HS := Lib.hid hS; clear hB hS
            exact Upd.of (ex_assign rfl) ⟨Below.refl _ _, h156⟩
        · intro env3 Sr3 wr3 hB3 hSr3 hF3
          have f0 : env3 0 = .int .u64 (rootF d) := hF3 0 (by decide) rfl
          have f1 : env3 1 = .slice (some ⟨bd, od, none⟩) n cr := hF3 1 (by decide) rfl
          have f2 : env3 2 = .int .i64 (n : Nat) := hF3 2 (by decide) rfl
          have f3 : env3 3 = .slice (some ⟨g, 0, none⟩) q.length cap := hF3 3 (by decide) rfl
          have f4 : env3 4 = .agg #[.int .i64 (n : Int), .slice (some ⟨g, 0, none⟩) q.length cap] := hF3 4 (by decide) rfl
          have f5 : env3 5 = .agg #[.int .i64 (i : Int), .int .u64 x] := hF3 5 (by decide) rfl
          have f6 : env3 6 = .int .i64 c1 := hF3 6 (by decide) rfl
          have f7 : env3 7 = .bool (c1 == 0) := hF3 7 (by decide) rfl
          have f8 : env3 8 = .int .u64 y := hF3 8 (by decide) rfl
          have f9 : env3 9 = .pointer (some ⟨bx, 0, none⟩) := hF3 9 (by decide) rfl
          have f10 : env3 10 = .slice (some ⟨bq, oq, none⟩) q.length cp := hF3 10 (by decide) rfl
          have f11 : env3 11 = .int .i64 (t : Int) := hF3 11 (by decide) rfl
          have f12 : env3 12 = .pointer (some ⟨bq, oq + t, none⟩) := hF3 12 (by decide) rfl
          have f13 : env3 13 = .int .u64 z := hF3 13 (by decide) rfl
          have f14 : env3 14 = .bool (y == z) := hF3 14 (by decide) rfl
          have f15 : env3 15 = .bool true := hF3 15 (by decide) rfl
          have f16 : env3 16 = .bool true := hF3 16 (by decide) rfl
          have f17 : env3 17 = .int .u64 (rootF d) := hF3 17 (by decide) rfl
          have f18 : env3 18 = .slice (some ⟨bd, od, none⟩) n cr := hF3 18 (by decide) rfl
          have f19 : env3 19 = .int .i64 (n : Nat) := hF3 19 (by decide) rfl
          have f20 : env3 20 = .pointer (some ⟨bx, 0, none⟩) := hF3 20 (by decide) rfl
          have f21 : env3 21 = .slice (some ⟨bq, oq, none⟩) q.length cp := hF3 21 (by decide) rfl
          have f22 : env3 22 = .pointer (some ⟨bx, 0, none⟩) := hF3 22 (by decide) rfl
          have f23 : env3 23 = .slice (some ⟨bq, oq, none⟩) q.length cp := hF3 23 (by decide) rfl
          have f24 : env3 24 = .int .i64 (q.length : Nat) := hF3 24 (by decide) rfl
          have f25 : env3 25 = .int .i64 ((q.length - 1 : Nat) : Int) := hF3 25 (by decide) rfl
          have f26 : env3 26 = .slice (some ⟨bq, oq, none⟩) (q.length - 1) cp := hF3 26 (by decide) rfl
          have f27 : env3 27 = .agg #[.int .i64 (n : Int), .slice (some ⟨bq, oq, none⟩) (q.length - 1) cp] := hF3 27 (by decide) rfl
          have f28 : env3 28 = .agg #[.int .i64 (i : Int), .int .u64 x] := hF3 28 (by decide) rfl
          have f29 : env3 29 = .int .i64 6 := hF3 29 (by decide) rfl
          have f30 : env3 30 = .bool true := hF3 30 (by decide) rfl
          have f31 : env3 31 = .bool true := hF3 31 (by decide) rfl
          have f32 : env3 32 = .bool true := hF3 32 (by decide) rfl
          have f33 : env3 33 = .bool true := hF3 33 (by decide) rfl
          have f34 : env3 34 = .bool true := hF3 34 (by decide) rfl
          have f35 : env3 35 = .bool true := hF3 35 (by decide) rfl
          clear hF3
          simp only [List.take_succ_cons, List.take_nil, List.drop_nil, List.drop_succ_cons, putAll, Act.put, List.setIfInBounds_toArray, List.set_cons_succ, List.set_cons_zero, Nat.reduceAdd, f0, f1, f2, f3, f4, f5, f6, f7, f8, f9, f10, f11, f12, f13, f14, f15, f16, f17, f18, f19, f20, f21, f22, f23, f24, f25, f26, f27, f28, f29, f30, f31, f32, f33, f34, f35]
          clear f0 f1 f2 f3 f4 f5 f6 f7 f8 f9 f10 f11 f12 f13 f14 f15 f16 f17 f18 f19 f20 f21 f22 f23 f24 f25 f26 f27 f28 f29 f30 f31 f32 f33 f34 f35
          refine wpList_nil ?_
          have HW := Lib.hid (HW.out.trans (hB3.mono HW.out.size))
          go_wp2
          go_ret
          exact ⟨rfl, HW.out⟩

end Go.Proofs.Ytjmfaebimgnblaa
