/-
  DigestPaths answers true.
-/
import Derived.Test.YtjmfaebimgnblaaEx01
import Derived.Test.YtjmfaebimgnblaaPureB
namespace Go.Proofs.Ytjmfaebimgnblaa
open Go.RowKit

set_option maxRecDepth 100000 in
set_option maxHeartbeats 2000000 in
theorem paths_calls (v : Value) (l : List Int) (k0 k1 : Nat) (S : Nat → Prop) (w : World) (h0 : k0 ≤ 65535) (h1 : k1 ≤ 65535) (hl : IsInts .u64 S w v l) :
    Calls Try.prog 3 #[v, .agg #[.int .u16 (k0 : Int), .int .u16 (k1 : Int)]] w fun e w' => e = .returned (.bool true) ∧ Below w.heap.size w w' := by
  have HL := Lib.hid hl
  obtain ⟨p, c, rfl, hlc, hcm, hp, _⟩ := hl
  clear hp hcm
  go_enter Try.func3, Try.ntmps3
  go_wp2_with fail
  have HK : Hid (Box (w.alloc (.cells #[.int .u16 (k0 : Int), .int .u16 (k1 : Int)] 24)) w.heap.size 24 #[.int .u16 (k0 : Int), .int .u16 (k1 : Int)]) := Box.new _ _ _
  have HW : Hid (Below w.heap.size w (w.alloc (.cells #[.int .u16 (k0 : Int), .int .u16 (k1 : Int)] 24))) := (Below.refl _ w).alloc (Nat.le_refl _) _
  have HL2 := Lib.hid (HL.out.later HW.out)
  clear HL
  generalize w.alloc (.cells #[.int .u16 (k0 : Int), .int .u16 (k1 : Int)] 24) = w0 at *
  refine (examples01_calls _).mono ?_
  rintro e w1 ⟨rfl, hb⟩
  have HK1 := Lib.hid (HK.out.later hb)
  have HW1 := Lib.hid (HW.out.trans (hb.mono HW.out.size))
  have HL3 := Lib.hid (HL2.out.later hb)
  clear hb HK HW HL2
  have hk0 := HK1.out.cell 0 (v := .int .u16 (k0 : Int)) rfl
  have hk1 := HK1.out.cell 1 (v := .int .u16 (k1 : Int)) rfl
  go_wp2_with fail
  obtain ⟨n, hn⟩ : ∃ n, n = 1 + k0 % 300 := ⟨_, rfl⟩
  rw [show (1 + (k0 : Int) % 300) = (n : Int) from by omega]
  have hn1 : 1 ≤ n := by omega
  have hn2 : n ≤ 300 := by omega
  clear hn hk0
  refine (Grown_calls _ l n _ _ (by omega) HL3.out).mono ?_
  rintro e w2 ⟨r, rfl, ho, hb⟩
  obtain ⟨d, hd⟩ : ∃ d, d = grownF l n := ⟨_, rfl⟩
  have hdl : d.length = n := by rw [hd, grownF_len]
  rw [← hd] at ho
  have HD := Lib.hid ho.toRow
  obtain ⟨pr, cr, rfl, hcr, hcm, -⟩ := ho.toRow.shape
  have HK2 := Lib.hid (HK1.out.later hb)
  have HW2 := Lib.hid (HW1.out.trans (hb.mono HW1.out.size))
  clear hb HK1 HW1 HL3 hk1 ho hd
  have hcm : cr ≤ 9223372036854775807 := hcm
  have hk1 := HK2.out.cell 1 (v := .int .u16 (k1 : Int)) rfl
  rw [hdl] at HD hcr ⊢
  have HDL := Lib.hid hdl
  clear hdl
  have e1 : ((n : Int) == 0) = false := beq_eq_false_iff_ne.2 (by omega)
  go_wp2_with fail
  obtain ⟨i, hi⟩ : ∃ i, i = k1 % n := ⟨_, rfl⟩
  rw [show ((k1 : Int) % (n : Int)) = (i : Int) from by rw [hi]; omega]
  have hin : i < n := by rw [hi]; exact Nat.mod_lt _ (by omega)
  clear hi hk1 e1
  have hbp : badPath d (i : Int) = false := decide_eq_false (by rw [HDL.out]; omega)
  have hpl : pathList d (i : Int) = pathF d i := by unfold pathList; rw [hbp]; rfl
  have hpe : pathErr d (i : Int) = 0 := by unfold pathErr; rw [hbp]; rfl
  refine (pathsV_calls _ d _ _ (fun _ => True) _ (by rw [HDL.out]; omega) HD.out).mono ?_
  rintro e w3 ⟨r, rfl, ⟨pp, cp, rfl, hr⟩, hb⟩
  rw [hpl] at hr
  rw [hpe, hpl]
  clear hbp hpl hpe
  have HR := Lib.hid hr
  have HD3 := Lib.hid (HD.out.later hb)
  have HW3 := Lib.hid (HW2.out.trans (hb.mono HW2.out.size))
  clear hb HK2 HW2 HD hr
  go_wp2_with fail
  have HX : Hid (Box (w3.alloc (.cells #[.slice pp (pathF d i).length cp, .int .i64 0] 29)) w3.heap.size 29 #[.slice pp (pathF d i).length cp, .int .i64 0]) := Box.new _ _ _
  have HA : Hid (Below w3.heap.size w3 (w3.alloc (.cells #[.slice pp (pathF d i).length cp, .int .i64 0] 29))) := (Below.refl _ w3).alloc (Nat.le_refl _) _
  have HW := Lib.hid (HW3.out.trans (HA.out.mono HW3.out.size))
  have HD := Lib.hid (HD3.out.later HA.out)
  have HP := Lib.hid (HR.out.later HA.out)
  clear HW3 HD3 HR HA
  generalize w3.alloc (.cells #[.slice pp (pathF d i).length cp, .int .i64 0] 29) = w4 at *
  generalize w3.heap.size = bx at *
  obtain ⟨x, hx⟩ : ∃ x, d[i]? = some x := ⟨_, List.getElem?_eq_getElem (by rw [HDL.out]; exact hin)⟩
  have HCK : Hid (checkF (rootF d) (n : Int) (i : Int) x (pathF d i) = 0) := by have := check_path d i x hx (by rw [HDL.out]; omega); rw [HDL.out] at this; exact this
  obtain ⟨bd, od, rfl, -, hbd, hcd⟩ := HD.out.cellAt hx
  have HCD := Lib.hid hcd
  have HXX := Lib.hid hx
  clear hcd hx
  go_loop [9] (fun v => ∃ b : Nat, v = .int .i64 b ∧ b ≤ 9 ∧ (∀ j, j < b → 2 ^ j < n)) (fun v => 9 - (intOf v).toNat)
  case atStart => exact ⟨0, rfl, by omega, fun j h => by omega⟩
  case round =>
    obtain ⟨b, rfl, hb9, hj⟩ := hrel
    have HJ := Lib.hid hj
    clear hj
    obtain ⟨q, hq⟩ : ∃ q : Nat, q = 2 ^ b := ⟨_, rfl⟩
    have hq9 : q ≤ 512 := by rw [hq]; exact Nat.pow_le_pow_right (n := 2) (by omega) hb9
    have hw : wrap64 ((2 : Int) ^ b) = (q : Int) := by
      have e : ((2 : Int) ^ b) = (q : Int) := by rw [hq]; simp
      rw [e]
      exact IntWalk.wrap64_in _ (by omega)
    have HQ := Lib.hid hq
    have HWR := Lib.hid hw
    clear hq hw
    by_cases hlt : q < n
    · have hb8 : b < 9 := by
        refine Decidable.byContradiction fun hn => ?_
        have : b = 9 := by omega
        have h2 := HQ.out
        rw [this] at h2
        omega
      have hw := HWR.out
      go_wp2
      clear hw
      go_round
      case rel =>
        refine ⟨b + 1, by go_num, by omega, fun j hj => ?_⟩
        by_cases hjb : j < b
        · exact HJ.out j hjb
        · have : j = b := by omega
          rw [this, ← HQ.out]
          exact hlt
      case measure => simp [intOf]; omega
    · have hle : (pathF d i).length ≤ b := pathF_bits b d i (by rw [HDL.out, ← HQ.out]; omega)
      have hn0 : ¬ (q : Int) < n := by omega
      clear hlt
      have hwn : IntKind.i64.wrap (-1 - (i : Int)) = -1 - (i : Int) := IntWalk.i64_in _ (by omega)
      have HWN := Lib.hid hwn
      have hw := HWR.out
      clear hwn
      go_wp2
      clear hw hn0

      refine wp_region_table 47 [RKnown (.pointer (some ⟨bx, 1, none⟩)) [(8, none)],
        RKnown (.int .i64 0) [(37, some 0)],
        RKnown (.bool true) [(38, some 1)],
        RKnown (.bool true) [(39, some 2)],
        RKnown (.pointer (some ⟨bx, 0, none⟩)) [(8, none)],
        RKnown (.slice pp (pathF d i).length cp) [(41, some 4)],
        RKnown (.int .i64 ((pathF d i).length : Nat)) [(42, some 5)],
        RKnown (.int .i64 (b : Int)) [(9, none)],
        RKnown (.bool true) [(43, some 6), (44, some 7)],
        RKnown (.bool true) [(40, some 3), (45, some 8)],
        RKnown (.bool true) [(46, some 9)],
        RKnown (.slice (some ⟨bd, od, none⟩) n cr) [(6, none)],
        RKnown (.int .u64 (rootF d)) [(48, some 11)],
        RKnown (.slice (some ⟨bd, od, none⟩) n cr) [(6, none)],
        RKnown (.int .i64 (n : Nat)) [(50, some 13)],
        RKnown (.pointer (some ⟨bx, 0, none⟩)) [(8, none)],
        RKnown (.slice pp (pathF d i).length cp) [(52, some 15)],
        RKnown (.agg #[.int .i64 (n : Int), .slice pp (pathF d i).length cp]) [(51, some 14), (53, some 16)],
        RKnown (.int .i64 (i : Int)) [(7, none)],
        RKnown (.slice (some ⟨bd, od, none⟩) n cr) [(6, none)],
        RKnown (.int .i64 (i : Int)) [(7, none)],
        RKnown (.pointer (some ⟨bd, od + i, none⟩)) [(56, some 19), (57, some 20)],
        RKnown (.int .u64 x) [(58, some 21)],
        RKnown (.agg #[.int .i64 (i : Int), .int .u64 x]) [(55, some 18), (59, some 22)],
        RKnown (.int .i64 0) [(49, some 12), (54, some 17), (60, some 23)],
        RKnown (.bool true) [(61, some 24)],
        RKnown (.bool true) [(47, some 10), (62, some 25)],
        RKnown (.bool true) [(63, some 26)],
        RKnown (.slice (some ⟨bd, od, none⟩) n cr) [(6, none)],
        RKnown (.slice (some ⟨bd, od, none⟩) n cr) [(6, none)],
        RKnown (.int .i64 (n : Nat)) [(66, some 29)],
        RFact (fun Sx vx wx => PathsV [] 1 Sx vx wx) (PathsV.stable [] 1) [(65, some 28), (67, some 30)],
        RKnown (.int .i64 1) [(68, some 31)],
        RKnown (.bool true) [(69, some 32)],
        RKnown (.bool true) [(64, some 27), (70, some 33)],
        RKnown (.bool true) [(71, some 34)],
        RKnown (.slice (some ⟨bd, od, none⟩) n cr) [(6, none)],
        RKnown (.int .i64 (i : Int)) [(7, none)],
        RKnown (.int .i64 (-1 - (i : Int))) [(74, some 37)],
        RFact (fun Sx vx wx => PathsV [] 1 Sx vx wx) (PathsV.stable [] 1) [(73, some 36), (75, some 38)],
        RKnown (.int .i64 1) [(76, some 39)],
        RKnown (.bool true) [(77, some 40)],
        RKnown (.bool true) [(72, some 35), (78, some 41)],
        RKnown (.bool true) [(79, some 42)],
        RKnown (.bool true) [(5, none)],
        RKnown (.bool true) [(80, some 43), (81, some 44)],
        RKnown (.bool true) [(82, some 45)]] (by kernel_rfl) (by kernel_rfl) (by kernel_rfl) ?_ ?_
      · refine ⟨?_, ?_, ?_, ?_, ?_, ?_, ?_, ?_, ?_, ?_, ?_, ?_, ?_, ?_, ?_, ?_, ?_, ?_, ?_, ?_, ?_, ?_, ?_, ?_, ?_, ?_, ?_, ?_, ?_, ?_, ?_, ?_, ?_, ?_, ?_, ?_, ?_, ?_, ?_, ?_, ?_, ?_, ?_, ?_, ?_, ?_, ?_, trivial⟩
        · refine OpOk.grow rfl (GuardYes.none rfl) ?_
          intro ρ S w1 hc hB hS hI
          have h8 : ρ (.tmp 8) = .pointer (some ⟨bx, 0, none⟩) := And.left hI
          clear hI; have HB := Lib.hid hB; have HS := Lib.hid hS; clear hB hS
          refine Upd.hide fun R1 hR1 => ?_
          go_simp
          exact Upd.ok (hR1 _ _ ⟨Below.refl _ _, rfl⟩)
        · refine OpOk.grow rfl (GuardYes.none rfl) ?_
          intro ρ S w1 hc hB hS hI
          have h37 : ρ (.tmp 37) = .pointer (some ⟨bx, 1, none⟩) := And.left hI
          clear hI; have HB := Lib.hid hB; have HS := Lib.hid hS; clear hB hS
          have hcl := (HX.out.later HB.out).cell 1 (v := .int .i64 0) rfl
          refine Upd.hide fun R1 hR1 => ?_
          go_simp
          exact Upd.ok (hR1 _ _ ⟨Below.refl _ _, rfl⟩)
        · refine OpOk.grow rfl (GuardYes.none rfl) ?_
          intro ρ S w1 hc hB hS hI
          have h38 : ρ (.tmp 38) = .int .i64 0 := And.left hI
          have hc1 := hc.const; have hc2 := hc.func
          clear hI; have HB := Lib.hid hB; have HS := Lib.hid hS; clear hB hS
          refine Upd.hide fun R1 hR1 => ?_
          go_simp
          exact Upd.ok (hR1 _ _ ⟨Below.refl _ _, by first | rfl | simp⟩)
        · refine OpOk.grow rfl (GuardYes.none rfl) ?_
          intro ρ S w1 hc hB hS hI
          have h39 : ρ (.tmp 39) = .bool true := And.left hI
          clear hI; have HB := Lib.hid hB; have HS := Lib.hid hS; clear hB hS
          exact Upd.of (ex_move rfl) ⟨Below.refl _ _, h39⟩
        · refine OpOk.grow rfl (GuardYes.some rfl (fun _ _ _ h => h)) ?_
          intro ρ S w1 hc hB hS hI
          have h8 : ρ (.tmp 8) = .pointer (some ⟨bx, 0, none⟩) := And.left hI
          clear hI; have HB := Lib.hid hB; have HS := Lib.hid hS; clear hB hS
          refine Upd.hide fun R1 hR1 => ?_
          go_simp
          exact Upd.ok (hR1 _ _ ⟨Below.refl _ _, rfl⟩)
        · refine OpOk.grow rfl (GuardYes.some rfl (fun _ _ _ h => h)) ?_
          intro ρ S w1 hc hB hS hI
          have h41 : ρ (.tmp 41) = .pointer (some ⟨bx, 0, none⟩) := And.left hI
          clear hI; have HB := Lib.hid hB; have HS := Lib.hid hS; clear hB hS
          have hcl := (HX.out.later HB.out).cell 0 (v := .slice pp (pathF d i).length cp) rfl
          refine Upd.hide fun R1 hR1 => ?_
          go_simp
          exact Upd.ok (hR1 _ _ ⟨Below.refl _ _, rfl⟩)
        · refine OpOk.grow rfl (GuardYes.some rfl (fun _ _ _ h => h)) ?_
          intro ρ S w1 hc hB hS hI
          have h42 : ρ (.tmp 42) = .slice pp (pathF d i).length cp := And.left hI
          clear hI; have HB := Lib.hid hB; have HS := Lib.hid hS; clear hB hS
          exact Upd.of (ex_len_slice rfl (by kernel_rfl) h42) ⟨Below.refl _ _, rfl⟩
        · refine OpOk.grow rfl (GuardYes.some rfl (fun _ _ _ h => h)) ?_
          intro ρ S w1 hc hB hS hI
          have h9 : ρ (.tmp 9) = .int .i64 (b : Int) := And.left hI
          clear hI; have HB := Lib.hid hB; have HS := Lib.hid hS; clear hB hS
          exact Upd.of (ex_move rfl) ⟨Below.refl _ _, h9⟩
        · refine OpOk.grow rfl (GuardYes.some rfl (fun _ _ _ h => h)) ?_
          intro ρ S w1 hc hB hS hI
          have h43 : ρ (.tmp 43) = .int .i64 ((pathF d i).length : Nat) := And.left hI
          have h44 : ρ (.tmp 44) = .int .i64 (b : Int) := And.left (And.right hI)
          clear hI; have HB := Lib.hid hB; have HS := Lib.hid hS; clear hB hS
          refine Upd.hide fun R1 hR1 => ?_
          go_simp
          exact Upd.ok (hR1 _ _ ⟨Below.refl _ _, by first | rfl | simp⟩)
        · refine OpOk.grow rfl (GuardYes.none rfl) ?_
          intro ρ S w1 hc hB hS hI
          have h40 : ρ (.tmp 40) = .bool true := And.left hI
          have h45 : ρ (.tmp 45) = .bool true := And.left (And.right hI)
          have hc1 := hc.const; have hc2 := hc.func
          clear hI; have HB := Lib.hid hB; have HS := Lib.hid hS; clear hB hS
          exact Upd.of (ex_pick rfl h40) ⟨Below.refl _ _, h45⟩
        · refine OpOk.grow rfl (GuardYes.none rfl) ?_
          intro ρ S w1 hc hB hS hI
          have h46 : ρ (.tmp 46) = .bool true := And.left hI
          clear hI; have HB := Lib.hid hB; have HS := Lib.hid hS; clear hB hS
          exact Upd.of (ex_move rfl) ⟨Below.refl _ _, h46⟩
        · refine OpOk.grow rfl (GuardYes.some rfl (fun _ _ _ h => h)) ?_
          intro ρ S w1 hc hB hS hI
          have h6 : ρ (.tmp 6) = .slice (some ⟨bd, od, none⟩) n cr := And.left hI
          clear hI; have HB := Lib.hid hB; have HS := Lib.hid hS; clear hB hS
          exact Upd.of (ex_move rfl) ⟨Below.refl _ _, h6⟩
        · refine OpOk.grow rfl (GuardYes.some rfl (fun _ _ _ h => h)) ?_
          intro ρ S w1 hc hB hS hI
          have h48 : ρ (.tmp 48) = .slice (some ⟨bd, od, none⟩) n cr := And.left hI
          have hc1 := hc.const; have hc2 := hc.func
          clear hI; have HB := Lib.hid hB; have HS := Lib.hid hS; clear hB hS
          refine Upd.call (vs := #[.slice (some ⟨bd, od, none⟩) n cr]) rfl hc (by kernel_rfl) (by simp only [List.map_toArray, List.map_cons, List.map_nil, h48]) ?_
          refine (root_calls _ d _ _ (by rw [HDL.out]; omega) (HD.out.base HB.out HS.out)).mono ?_
          rintro e w2 ⟨rfl, hb2⟩
          exact ⟨_, rfl, hb2, rfl⟩
        · refine OpOk.grow rfl (GuardYes.some rfl (fun _ _ _ h => h)) ?_
          intro ρ S w1 hc hB hS hI
          have h6 : ρ (.tmp 6) = .slice (some ⟨bd, od, none⟩) n cr := And.left hI
          clear hI; have HB := Lib.hid hB; have HS := Lib.hid hS; clear hB hS
          exact Upd.of (ex_move rfl) ⟨Below.refl _ _, h6⟩
        · refine OpOk.grow rfl (GuardYes.some rfl (fun _ _ _ h => h)) ?_
          intro ρ S w1 hc hB hS hI
          have h50 : ρ (.tmp 50) = .slice (some ⟨bd, od, none⟩) n cr := And.left hI
          clear hI; have HB := Lib.hid hB; have HS := Lib.hid hS; clear hB hS
          exact Upd.of (ex_len_slice rfl (by kernel_rfl) h50) ⟨Below.refl _ _, rfl⟩
        · refine OpOk.grow rfl (GuardYes.some rfl (fun _ _ _ h => h)) ?_
          intro ρ S w1 hc hB hS hI
          have h8 : ρ (.tmp 8) = .pointer (some ⟨bx, 0, none⟩) := And.left hI
          clear hI; have HB := Lib.hid hB; have HS := Lib.hid hS; clear hB hS
          refine Upd.hide fun R1 hR1 => ?_
          go_simp
          exact Upd.ok (hR1 _ _ ⟨Below.refl _ _, rfl⟩)
        · refine OpOk.grow rfl (GuardYes.some rfl (fun _ _ _ h => h)) ?_
          intro ρ S w1 hc hB hS hI
          have h52 : ρ (.tmp 52) = .pointer (some ⟨bx, 0, none⟩) := And.left hI
          clear hI; have HB := Lib.hid hB; have HS := Lib.hid hS; clear hB hS
          have hcl := (HX.out.later HB.out).cell 0 (v := .slice pp (pathF d i).length cp) rfl
          refine Upd.hide fun R1 hR1 => ?_
          go_simp
          exact Upd.ok (hR1 _ _ ⟨Below.refl _ _, rfl⟩)
        · refine OpOk.grow rfl (GuardYes.some rfl (fun _ _ _ h => h)) ?_
          intro ρ S w1 hc hB hS hI
          have h51 : ρ (.tmp 51) = .int .i64 (n : Nat) := And.left hI
          have h53 : ρ (.tmp 53) = .slice pp (pathF d i).length cp := And.left (And.right hI)
          clear hI; have HB := Lib.hid hB; have HS := Lib.hid hS; clear hB hS
          refine Upd.hide fun R1 hR1 => ?_
          go_simp
          exact Upd.ok (hR1 _ _ ⟨Below.refl _ _, rfl⟩)
        · refine OpOk.grow rfl (GuardYes.some rfl (fun _ _ _ h => h)) ?_
          intro ρ S w1 hc hB hS hI
          have h7 : ρ (.tmp 7) = .int .i64 (i : Int) := And.left hI
          clear hI; have HB := Lib.hid hB; have HS := Lib.hid hS; clear hB hS
          exact Upd.of (ex_move rfl) ⟨Below.refl _ _, h7⟩
        · refine OpOk.grow rfl (GuardYes.some rfl (fun _ _ _ h => h)) ?_
          intro ρ S w1 hc hB hS hI
          have h6 : ρ (.tmp 6) = .slice (some ⟨bd, od, none⟩) n cr := And.left hI
          clear hI; have HB := Lib.hid hB; have HS := Lib.hid hS; clear hB hS
          exact Upd.of (ex_move rfl) ⟨Below.refl _ _, h6⟩
        · refine OpOk.grow rfl (GuardYes.some rfl (fun _ _ _ h => h)) ?_
          intro ρ S w1 hc hB hS hI
          have h7 : ρ (.tmp 7) = .int .i64 (i : Int) := And.left hI
          clear hI; have HB := Lib.hid hB; have HS := Lib.hid hS; clear hB hS
          exact Upd.of (ex_move rfl) ⟨Below.refl _ _, h7⟩
        · refine OpOk.grow rfl (GuardYes.some rfl (fun _ _ _ h => h)) ?_
          intro ρ S w1 hc hB hS hI
          have h56 : ρ (.tmp 56) = .slice (some ⟨bd, od, none⟩) n cr := And.left hI
          have h57 : ρ (.tmp 57) = .int .i64 (i : Int) := And.left (And.right hI)
          clear hI; have HB := Lib.hid hB; have HS := Lib.hid hS; clear hB hS
          refine Upd.hide fun R1 hR1 => ?_
          go_simp
          exact Upd.ok (hR1 _ _ ⟨Below.refl _ _, rfl⟩)
        · refine OpOk.grow rfl (GuardYes.some rfl (fun _ _ _ h => h)) ?_
          intro ρ S w1 hc hB hS hI
          have h58 : ρ (.tmp 58) = .pointer (some ⟨bd, od + i, none⟩) := And.left hI
          clear hI; have HB := Lib.hid hB; have HS := Lib.hid hS; clear hB hS
          have hcl : w1.cell? ⟨bd, od + i, none⟩ = some (.int .u64 x) := ((HB.out).cell (p := ⟨bd, od + i, none⟩) hbd).trans HCD.out
          refine Upd.hide fun R1 hR1 => ?_
          go_simp
          exact Upd.ok (hR1 _ _ ⟨Below.refl _ _, rfl⟩)
        · refine OpOk.grow rfl (GuardYes.some rfl (fun _ _ _ h => h)) ?_
          intro ρ S w1 hc hB hS hI
          have h55 : ρ (.tmp 55) = .int .i64 (i : Int) := And.left hI
          have h59 : ρ (.tmp 59) = .int .u64 x := And.left (And.right hI)
          clear hI; have HB := Lib.hid hB; have HS := Lib.hid hS; clear hB hS
          refine Upd.hide fun R1 hR1 => ?_
          go_simp
          exact Upd.ok (hR1 _ _ ⟨Below.refl _ _, rfl⟩)
        · refine OpOk.grow rfl (GuardYes.some rfl (fun _ _ _ h => h)) ?_
          intro ρ S w1 hc hB hS hI
          have h49 : ρ (.tmp 49) = .int .u64 (rootF d) := And.left hI
          have h54 : ρ (.tmp 54) = .agg #[.int .i64 (n : Int), .slice pp (pathF d i).length cp] := And.left (And.right hI)
          have h60 : ρ (.tmp 60) = .agg #[.int .i64 (i : Int), .int .u64 x] := And.left (And.right (And.right hI))
          have hc1 := hc.const; have hc2 := hc.func
          clear hI; have HB := Lib.hid hB; have HS := Lib.hid hS; clear hB hS
          refine Upd.call (vs := #[.int .u64 (rootF d), .agg #[.int .i64 (n : Int), .slice pp (pathF d i).length cp], .agg #[.int .i64 (i : Int), .int .u64 x]]) rfl hc (by kernel_rfl) (by simp only [List.map_toArray, List.map_cons, List.map_nil, h49, h54, h60]) ?_
          refine (check_calls _ _ _ _ _ _ S _ (HP.out.base HB.out HS.out)).mono ?_
          rintro e w2 ⟨rfl, hb2⟩
          exact ⟨_, rfl, hb2, congrArg (Value.int .i64) HCK.out⟩
        · refine OpOk.grow rfl (GuardYes.some rfl (fun _ _ _ h => h)) ?_
          intro ρ S w1 hc hB hS hI
          have h61 : ρ (.tmp 61) = .int .i64 0 := And.left hI
          have hc1 := hc.const; have hc2 := hc.func
          clear hI; have HB := Lib.hid hB; have HS := Lib.hid hS; clear hB hS
          refine Upd.hide fun R1 hR1 => ?_
          go_simp
          exact Upd.ok (hR1 _ _ ⟨Below.refl _ _, by first | rfl | simp⟩)
        · refine OpOk.grow rfl (GuardYes.none rfl) ?_
          intro ρ S w1 hc hB hS hI
          have h47 : ρ (.tmp 47) = .bool true := And.left hI
          have h62 : ρ (.tmp 62) = .bool true := And.left (And.right hI)
          have hc1 := hc.const; have hc2 := hc.func
          clear hI; have HB := Lib.hid hB; have HS := Lib.hid hS; clear hB hS
          exact Upd.of (ex_pick rfl h47) ⟨Below.refl _ _, h62⟩
        · refine OpOk.grow rfl (GuardYes.none rfl) ?_
          intro ρ S w1 hc hB hS hI
          have h63 : ρ (.tmp 63) = .bool true := And.left hI
          clear hI; have HB := Lib.hid hB; have HS := Lib.hid hS; clear hB hS
          exact Upd.of (ex_move rfl) ⟨Below.refl _ _, h63⟩
        · refine OpOk.grow rfl (GuardYes.some rfl (fun _ _ _ h => h)) ?_
          intro ρ S w1 hc hB hS hI
          have h6 : ρ (.tmp 6) = .slice (some ⟨bd, od, none⟩) n cr := And.left hI
          clear hI; have HB := Lib.hid hB; have HS := Lib.hid hS; clear hB hS
          exact Upd.of (ex_move rfl) ⟨Below.refl _ _, h6⟩
        · refine OpOk.grow rfl (GuardYes.some rfl (fun _ _ _ h => h)) ?_
          intro ρ S w1 hc hB hS hI
          have h6 : ρ (.tmp 6) = .slice (some ⟨bd, od, none⟩) n cr := And.left hI
          clear hI; have HB := Lib.hid hB; have HS := Lib.hid hS; clear hB hS
          exact Upd.of (ex_move rfl) ⟨Below.refl _ _, h6⟩
        · refine OpOk.grow rfl (GuardYes.some rfl (fun _ _ _ h => h)) ?_
          intro ρ S w1 hc hB hS hI
          have h66 : ρ (.tmp 66) = .slice (some ⟨bd, od, none⟩) n cr := And.left hI
          clear hI; have HB := Lib.hid hB; have HS := Lib.hid hS; clear hB hS
          exact Upd.of (ex_len_slice rfl (by kernel_rfl) h66) ⟨Below.refl _ _, rfl⟩
        · refine OpOk.grow rfl (GuardYes.some rfl (fun _ _ _ h => h)) ?_
          intro ρ S w1 hc hB hS hI
          have h65 : ρ (.tmp 65) = .slice (some ⟨bd, od, none⟩) n cr := And.left hI
          have h67 : ρ (.tmp 67) = .int .i64 (n : Nat) := And.left (And.right hI)
          have hc1 := hc.const; have hc2 := hc.func
          clear hI; have HB := Lib.hid hB; have HS := Lib.hid hS; clear hB hS
          refine Upd.call (vs := #[.slice (some ⟨bd, od, none⟩) n cr, .int .i64 (n : Nat)]) rfl hc (by kernel_rfl) (by simp only [List.map_toArray, List.map_cons, List.map_nil, h65, h67]) ?_
          refine (bad_calls _ d ((n : Int)) S _ (by rw [HDL.out]; omega) (HD.out.base HB.out HS.out) (by rw [HDL.out]; omega)).mono ?_
          rintro e w2 ⟨r, rfl, hr, hb2⟩
          exact ⟨_, rfl, hb2, hr⟩
        · refine OpOk.grow rfl (GuardYes.some rfl (fun _ _ _ h => h)) ?_
          intro ρ S w1 hc hB hS hI
          have h68 : PathsV [] 1 S (ρ (.tmp 68)) w1 := And.left hI
          clear hI; have HB := Lib.hid hB; have HS := Lib.hid hS; clear hB hS
          obtain ⟨p9, c9, e9, -⟩ := h68
          refine Upd.hide fun R1 hR1 => ?_
          go_simp
          exact Upd.ok (hR1 _ _ ⟨Below.refl _ _, rfl⟩)
        · refine OpOk.grow rfl (GuardYes.some rfl (fun _ _ _ h => h)) ?_
          intro ρ S w1 hc hB hS hI
          have h69 : ρ (.tmp 69) = .int .i64 1 := And.left hI
          have hc1 := hc.const; have hc2 := hc.func
          clear hI; have HB := Lib.hid hB; have HS := Lib.hid hS; clear hB hS
          refine Upd.hide fun R1 hR1 => ?_
          go_simp
          exact Upd.ok (hR1 _ _ ⟨Below.refl _ _, by first | rfl | simp⟩)
        · refine OpOk.grow rfl (GuardYes.none rfl) ?_
          intro ρ S w1 hc hB hS hI
          have h64 : ρ (.tmp 64) = .bool true := And.left hI
          have h70 : ρ (.tmp 70) = .bool true := And.left (And.right hI)
          have hc1 := hc.const; have hc2 := hc.func
          clear hI; have HB := Lib.hid hB; have HS := Lib.hid hS; clear hB hS
          exact Upd.of (ex_pick rfl h64) ⟨Below.refl _ _, h70⟩
        · refine OpOk.grow rfl (GuardYes.none rfl) ?_
          intro ρ S w1 hc hB hS hI
          have h71 : ρ (.tmp 71) = .bool true := And.left hI
          clear hI; have HB := Lib.hid hB; have HS := Lib.hid hS; clear hB hS
          exact Upd.of (ex_move rfl) ⟨Below.refl _ _, h71⟩
        · refine OpOk.grow rfl (GuardYes.some rfl (fun _ _ _ h => h)) ?_
          intro ρ S w1 hc hB hS hI
          have h6 : ρ (.tmp 6) = .slice (some ⟨bd, od, none⟩) n cr := And.left hI
          clear hI; have HB := Lib.hid hB; have HS := Lib.hid hS; clear hB hS
          exact Upd.of (ex_move rfl) ⟨Below.refl _ _, h6⟩
        · refine OpOk.grow rfl (GuardYes.some rfl (fun _ _ _ h => h)) ?_
          intro ρ S w1 hc hB hS hI
          have h7 : ρ (.tmp 7) = .int .i64 (i : Int) := And.left hI
          clear hI; have HB := Lib.hid hB; have HS := Lib.hid hS; clear hB hS
          exact Upd.of (ex_move rfl) ⟨Below.refl _ _, h7⟩
        · refine OpOk.grow rfl (GuardYes.some rfl (fun _ _ _ h => h)) ?_
          intro ρ S w1 hc hB hS hI
          have h74 : ρ (.tmp 74) = .int .i64 (i : Int) := And.left hI
          have hc1 := hc.const; have hc2 := hc.func
          clear hI; have HB := Lib.hid hB; have HS := Lib.hid hS; clear hB hS
          have hwn := HWN.out
          refine Upd.hide fun R1 hR1 => ?_
          go_simp
          exact Upd.ok (hR1 _ _ ⟨Below.refl _ _, rfl⟩)
        · refine OpOk.grow rfl (GuardYes.some rfl (fun _ _ _ h => h)) ?_
          intro ρ S w1 hc hB hS hI
          have h73 : ρ (.tmp 73) = .slice (some ⟨bd, od, none⟩) n cr := And.left hI
          have h75 : ρ (.tmp 75) = .int .i64 (-1 - (i : Int)) := And.left (And.right hI)
          have hc1 := hc.const; have hc2 := hc.func
          clear hI; have HB := Lib.hid hB; have HS := Lib.hid hS; clear hB hS
          refine Upd.call (vs := #[.slice (some ⟨bd, od, none⟩) n cr, .int .i64 (-1 - (i : Int))]) rfl hc (by kernel_rfl) (by simp only [List.map_toArray, List.map_cons, List.map_nil, h73, h75]) ?_
          refine (bad_calls _ d (-1 - (i : Int)) S _ (by rw [HDL.out]; omega) (HD.out.base HB.out HS.out) (by rw [HDL.out]; omega)).mono ?_
          rintro e w2 ⟨r, rfl, hr, hb2⟩
          exact ⟨_, rfl, hb2, hr⟩
        · refine OpOk.grow rfl (GuardYes.some rfl (fun _ _ _ h => h)) ?_
          intro ρ S w1 hc hB hS hI
          have h76 : PathsV [] 1 S (ρ (.tmp 76)) w1 := And.left hI
          clear hI; have HB := Lib.hid hB; have HS := Lib.hid hS; clear hB hS
          obtain ⟨p9, c9, e9, -⟩ := h76
          refine Upd.hide fun R1 hR1 => ?_
          go_simp
          exact Upd.ok (hR1 _ _ ⟨Below.refl _ _, rfl⟩)
        · refine OpOk.grow rfl (GuardYes.some rfl (fun _ _ _ h => h)) ?_
          intro ρ S w1 hc hB hS hI
          have h77 : ρ (.tmp 77) = .int .i64 1 := And.left hI
          have hc1 := hc.const; have hc2 := hc.func
          clear hI; have HB := Lib.hid hB; have HS := Lib.hid hS; clear hB hS
          refine Upd.hide fun R1 hR1 => ?_
          go_simp
          exact Upd.ok (hR1 _ _ ⟨Below.refl _ _, by first | rfl | simp⟩)
        · refine OpOk.grow rfl (GuardYes.none rfl) ?_
          intro ρ S w1 hc hB hS hI
          have h72 : ρ (.tmp 72) = .bool true := And.left hI
          have h78 : ρ (.tmp 78) = .bool true := And.left (And.right hI)
          have hc1 := hc.const; have hc2 := hc.func
          clear hI; have HB := Lib.hid hB; have HS := Lib.hid hS; clear hB hS
          exact Upd.of (ex_pick rfl h72) ⟨Below.refl _ _, h78⟩
        · refine OpOk.grow rfl (GuardYes.none rfl) ?_
          intro ρ S w1 hc hB hS hI
          have h79 : ρ (.tmp 79) = .bool true := And.left hI
          clear hI; have HB := Lib.hid hB; have HS := Lib.hid hS; clear hB hS
          exact Upd.of (ex_move rfl) ⟨Below.refl _ _, h79⟩
        · refine OpOk.grow rfl (GuardYes.some rfl (fun _ _ _ h => h)) ?_
          intro ρ S w1 hc hB hS hI
          have h5 : ρ (.tmp 5) = .bool true := And.left hI
          clear hI; have HB := Lib.hid hB; have HS := Lib.hid hS; clear hB hS
          exact Upd.of (ex_move rfl) ⟨Below.refl _ _, h5⟩
        · refine OpOk.grow rfl (GuardYes.none rfl) ?_
          intro ρ S w1 hc hB hS hI
          have h80 : ρ (.tmp 80) = .bool true := And.left hI
          have h81 : ρ (.tmp 81) = .bool true := And.left (And.right hI)
          have hc1 := hc.const; have hc2 := hc.func
          clear hI; have HB := Lib.hid hB; have HS := Lib.hid hS; clear hB hS
          exact Upd.of (ex_pick rfl h80) ⟨Below.refl _ _, h81⟩
        · refine OpOk.grow rfl (GuardYes.none rfl) ?_
          intro ρ S w1 hc hB hS hI
          have h82 : ρ (.tmp 82) = .bool true := And.left hI
          clear hI; have HB := Lib.hid hB; have HS := Lib.hid hS; clear hB hS
          exact Upd.of (ex_assign rfl) ⟨Below.refl _ _, h82⟩
      · intro env1 Sr1 wr1 hB1 hSr1 hF1
        have f0 : env1 0 = .pointer (some ⟨bx, 1, none⟩) := hF1 0 (by decide) rfl
        have f1 : env1 1 = .int .i64 0 := hF1 1 (by decide) rfl
        have f2 : env1 2 = .bool true := hF1 2 (by decide) rfl
        have f3 : env1 3 = .bool true := hF1 3 (by decide) rfl
        have f4 : env1 4 = .pointer (some ⟨bx, 0, none⟩) := hF1 4 (by decide) rfl
        have f5 : env1 5 = .slice pp (pathF d i).length cp := hF1 5 (by decide) rfl
        have f6 : env1 6 = .int .i64 ((pathF d i).length : Nat) := hF1 6 (by decide) rfl
        have f7 : env1 7 = .int .i64 (b : Int) := hF1 7 (by decide) rfl
        have f8 : env1 8 = .bool true := hF1 8 (by decide) rfl
        have f9 : env1 9 = .bool true := hF1 9 (by decide) rfl
        have f10 : env1 10 = .bool true := hF1 10 (by decide) rfl
        have f11 : env1 11 = .slice (some ⟨bd, od, none⟩) n cr := hF1 11 (by decide) rfl
        have f12 : env1 12 = .int .u64 (rootF d) := hF1 12 (by decide) rfl
        have f13 : env1 13 = .slice (some ⟨bd, od, none⟩) n cr := hF1 13 (by decide) rfl
        have f14 : env1 14 = .int .i64 (n : Nat) := hF1 14 (by decide) rfl
        have f15 : env1 15 = .pointer (some ⟨bx, 0, none⟩) := hF1 15 (by decide) rfl
        have f16 : env1 16 = .slice pp (pathF d i).length cp := hF1 16 (by decide) rfl
        have f17 : env1 17 = .agg #[.int .i64 (n : Int), .slice pp (pathF d i).length cp] := hF1 17 (by decide) rfl
        have f18 : env1 18 = .int .i64 (i : Int) := hF1 18 (by decide) rfl
        have f19 : env1 19 = .slice (some ⟨bd, od, none⟩) n cr := hF1 19 (by decide) rfl
        have f20 : env1 20 = .int .i64 (i : Int) := hF1 20 (by decide) rfl
        have f21 : env1 21 = .pointer (some ⟨bd, od + i, none⟩) := hF1 21 (by decide) rfl
        have f22 : env1 22 = .int .u64 x := hF1 22 (by decide) rfl
        have f23 : env1 23 = .agg #[.int .i64 (i : Int), .int .u64 x] := hF1 23 (by decide) rfl
        have f24 : env1 24 = .int .i64 0 := hF1 24 (by decide) rfl
        have f25 : env1 25 = .bool true := hF1 25 (by decide) rfl
        have f26 : env1 26 = .bool true := hF1 26 (by decide) rfl
        have f27 : env1 27 = .bool true := hF1 27 (by decide) rfl
        have f28 : env1 28 = .slice (some ⟨bd, od, none⟩) n cr := hF1 28 (by decide) rfl
        have f29 : env1 29 = .slice (some ⟨bd, od, none⟩) n cr := hF1 29 (by decide) rfl
        have f30 : env1 30 = .int .i64 (n : Nat) := hF1 30 (by decide) rfl
        have f31 : PathsV [] 1 Sr1 (env1 31) wr1 := hF1 31 (by decide) rfl
        have f32 : env1 32 = .int .i64 1 := hF1 32 (by decide) rfl
        have f33 : env1 33 = .bool true := hF1 33 (by decide) rfl
        have f34 : env1 34 = .bool true := hF1 34 (by decide) rfl
        have f35 : env1 35 = .bool true := hF1 35 (by decide) rfl
        have f36 : env1 36 = .slice (some ⟨bd, od, none⟩) n cr := hF1 36 (by decide) rfl
        have f37 : env1 37 = .int .i64 (i : Int) := hF1 37 (by decide) rfl
        have f38 : env1 38 = .int .i64 (-1 - (i : Int)) := hF1 38 (by decide) rfl
        have f39 : PathsV [] 1 Sr1 (env1 39) wr1 := hF1 39 (by decide) rfl
        have f40 : env1 40 = .int .i64 1 := hF1 40 (by decide) rfl
        have f41 : env1 41 = .bool true := hF1 41 (by decide) rfl
        have f42 : env1 42 = .bool true := hF1 42 (by decide) rfl
        have f43 : env1 43 = .bool true := hF1 43 (by decide) rfl
        have f44 : env1 44 = .bool true := hF1 44 (by decide) rfl
        have f45 : env1 45 = .bool true := hF1 45 (by decide) rfl
        have f46 : env1 46 = .bool true := hF1 46 (by decide) rfl
        clear hF1
        simp only [List.take_succ_cons, List.take_zero, List.drop_succ_cons, List.drop_zero, List.take_nil, List.drop_nil, putAll, Act.put, List.setIfInBounds_toArray, List.set_cons_succ, List.set_cons_zero, Nat.reduceAdd, f0, f1, f2, f3, f4, f5, f6, f7, f8, f9, f10, f11, f12, f13, f14, f15, f16, f17, f18, f19, f20, f21, f22, f23, f24, f25, f26, f27, f28, f29, f30, f32, f33, f34, f35, f36, f37, f38, f40, f41, f42, f43, f44, f45, f46]
        clear f0 f1 f2 f3 f4 f5 f6 f7 f8 f9 f10 f11 f12 f13 f14 f15 f16 f17 f18 f19 f20 f21 f22 f23 f24 f25 f26 f27 f28 f29 f30 f32 f33 f34 f35 f36 f37 f38 f40 f41 f42 f43 f44 f45 f46
        generalize env1 31 = e68 at *
        generalize env1 39 = e76 at *
        refine wpList_nil ?_
        go_wp2
        go_ret
        exact ⟨rfl, HW.out.trans (hB1.mono HW.out.size)⟩

end Go.Proofs.Ytjmfaebimgnblaa
