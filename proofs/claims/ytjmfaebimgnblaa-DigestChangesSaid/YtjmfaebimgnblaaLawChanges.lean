/-
  DigestChanges answers true.
-/
import Derived.Test.YtjmfaebimgnblaaEx01
import Derived.Test.YtjmfaebimgnblaaPureD
import Derived.Deep.Cut
namespace Go.Proofs.Ytjmfaebimgnblaa
open Go.RowKit

set_option maxRecDepth 100000 in
set_option maxHeartbeats 4000000 in
theorem changes_calls (v : Value) (l : List Int) (k0 k1 : Nat) (y : Int) (S : Nat → Prop) (w : World) (h0 : k0 ≤ 65535) (h1 : k1 ≤ 65535) (hlin : ∀ x ∈ l, In64 x) (hyin : In64 y) (hl : IsInts .u64 S w v l) :
    Calls Try.prog 5 #[v, .agg #[.int .u16 (k0 : Int), .int .u16 (k1 : Int)], .int .u64 y] w fun e w' => e = .returned (.bool true) ∧ Below w.heap.size w w' := by
  have HL := Lib.hid hl
  obtain ⟨p, c, rfl, hlc, hcm, hp, _⟩ := hl
  clear hp
  have hcm0 : c ≤ 9223372036854775807 := hcm
  clear hcm
  go_enter Try.func5, Try.ntmps5
  go_wp2_with fail
  have HK : Hid (Box (w.alloc (.cells #[.int .u16 (k0 : Int), .int .u16 (k1 : Int)] 24)) w.heap.size 24 #[.int .u16 (k0 : Int), .int .u16 (k1 : Int)]) := Box.new _ _ _
  have HW : Hid (Below w.heap.size w (w.alloc (.cells #[.int .u16 (k0 : Int), .int .u16 (k1 : Int)] 24))) := (Below.refl _ w).alloc (Nat.le_refl _) _
  have HL2 := Lib.hid (HL.out.later HW.out)
  clear HL
  generalize w.alloc (.cells #[.int .u16 (k0 : Int), .int .u16 (k1 : Int)] 24) = w0 at *
  refine (examples01_calls _).mono ?_
  rintro e w1 ⟨rfl, hb⟩
  have HK1 := Lib.hid (HK.out.later hb)
  have HW1 := Lib.hid (HW.out.trans (hb.mono HW.out.size))
  have HL3 := Lib.hid (HL2.out.later hb)
  clear hb HK HW HL2
  have hk0 := HK1.out.cell 0 (v := .int .u16 (k0 : Int)) rfl
  go_wp2_with fail
  obtain ⟨n, hn⟩ : ∃ n, n = 1 + k0 % 300 := ⟨_, rfl⟩
  rw [show (1 + (k0 : Int) % 300) = (n : Int) from by omega]
  have hn1 : 1 ≤ n := by omega
  have hn2 : n ≤ 300 := by omega
  clear hn hk0
  refine (Grown_calls _ l n _ _ (by omega) HL3.out).mono ?_
  rintro e w2 ⟨r, rfl, ho, hb⟩
  obtain ⟨d, hd⟩ : ∃ d, d = grownF l n := ⟨_, rfl⟩
  have hdl : d.length = n := by rw [hd, grownF_len]
  have hdi : ∀ x ∈ d, In64 x := by rw [hd]; exact grownF_in l n hlin
  have HDI := Lib.hid hdi
  rw [← hd] at ho
  have HD := Lib.hid ho.toRow
  obtain ⟨pr, cr, rfl, hcr, hcm, -⟩ := ho.toRow.shape
  have HK2 := Lib.hid (HK1.out.later hb)
  have HW2 := Lib.hid (HW1.out.trans (hb.mono HW1.out.size))
  have HL4 := Lib.hid (HL3.out.later hb)
  clear hb HK1 HW1 HL3 ho hd hdi
  have hcm : cr ≤ 9223372036854775807 := hcm
  rw [hdl] at HD hcr ⊢
  have HDL := Lib.hid hdl
  clear hdl
  have e1 : ((n : Int) == 0) = false := beq_eq_false_iff_ne.2 (by omega)
  have hk1 := HK2.out.cell 1 (v := .int .u16 (k1 : Int)) rfl
  go_upto_region 6 with (fail)
  obtain ⟨i, hi⟩ : ∃ i, i = k1 % n := ⟨_, rfl⟩
  rw [show ((k1 : Int) % (n : Int)) = (i : Int) from by rw [hi]; omega]
  have hin : i < n := by rw [hi]; exact Nat.mod_lt _ (by omega)
  clear hi hk1 e1 HK2
  have hown0 : Own (Value.int .u64) w2.heap.size 33 (w2.alloc (.cells #[] 33)) (.slice (some ⟨w2.heap.size, 0, none⟩) 0 0) [] := World.ownsRow_made w2 #[] 0 (Nat.le_refl _) (by simp) rfl
  have hrow := HD.out.later ((Below.refl _ w2).alloc (Nat.le_refl _) (.cells #[] 33))
  have HO := Lib.hid hown0
  have HR := Lib.hid hrow
  have hc1 : ([] : List Int).length + d.length ≤ maxLen := by rw [HDL.out]; simp [maxLen]; omega
  have hc2 : (([] : List Int).length + d.length) * 8 ≤ 140737488355328 := by rw [HDL.out]; simp; omega
  have hc3 : w2.heap.size ≤ (w2.alloc (.cells #[] 33)).heap.size := by simp
  have HC1 := Lib.hid hc1
  have HC2 := Lib.hid hc2
  have HC3 := Lib.hid hc3
  clear hown0 hrow hc1 hc2 hc3
  go_wp2_with (at_builtin; refine wpList_append_row rfl (.tmp 29) (.tmp 30) 22 rfl w2.heap.size 33 (.int .u64 0) 8 Try.underlying22 (by kernel_rfl) rfl HO.out HR.out rfl rfl (fun _ => rfl) HC1.out HC2.out HC3.out (fun v3 w3 ho3 hb3 _ => ?_))
  rw [List.nil_append] at ho3
  have hb23 : Below w2.heap.size w2 w3 := ((Below.refl _ w2).alloc (Nat.le_refl _) _).trans hb3
  obtain ⟨g, cap, rfl, hg1, hg2, hgc, hgm, hcell, hfree, hset⟩ := ho3.cells (by rw [HDL.out]; omega)
  have hlt0 : i < d.length := by rw [HDL.out]; exact hin
  have hci := hcell i d[i] (List.getElem?_eq_getElem hlt0)
  have hfi := hfree i
  have hgm : cap ≤ 9223372036854775807 := hgm
  obtain ⟨x, hx⟩ : ∃ x, d[i]? = some x := ⟨_, List.getElem?_eq_getElem hlt0⟩
  have HXX := Lib.hid hx
  have hs := hset i y hlt0
  have HS3 := Lib.hid hs
  have hbs : Below w2.heap.size w2 (w3.setCell ⟨g, i, none⟩ (.int .u64 y)) := hb23.setCell hg1 _
  have HD4 := Lib.hid (HD.out.later hbs)
  have HW4 := Lib.hid (HW2.out.trans (hbs.mono HW2.out.size))
  have HB4 := Lib.hid hbs
  rw [HDL.out] at hgc ⊢
  have hsz : 0 < n := by omega
  clear hb3 hcell hfree hset hs hbs hb23 ho3 HO HR HC1 HC2 HC3 hx HD HW2 HL4
  have hrun : Sem.run Try.prog (Instr.indexAt 22 (.slice (some ⟨g, 0, none⟩) n cap) (.int .i64 (i : Int))) w3 = .ok (.pointer (some ⟨g, i, none⟩)) w3 := by
    refine (run_indexAt_slice (P := Try.prog) (w := w3) 22 ⟨g, 0, none⟩ n cap .i64 (i : Int) (by kernel_rfl)).trans ?_
    rw [if_pos ⟨by omega, by omega⟩, run_sizeOf (P := Try.prog) (w := w3) (sz := 1) (by kernel_rfl)]
    show Result.ok _ _ = _
    simp [Addr.add]; exact fun h => h.symm
  rw [hrun, Result.andThen_ok]
  go_upto_region 8 with (fail)
  clear hrun
  have HE : Hid (IsInts .u64 (fun b => w2.heap.size ≤ b) (w3.setCell ⟨g, i, none⟩ (.int .u64 y)) (.slice (some ⟨g, 0, none⟩) n cap) (d.set i y)) := by
    have := HS3.out.toRow
    rwa [HDL.out] at this
  generalize w3.setCell ⟨g, i, none⟩ (.int .u64 y) = w4 at *
  have HDS : Hid ((d.set i y).length = n) := by show (d.set i y).length = n; rw [List.length_set]; exact HDL.out
  have HPL : Hid (pathList d (i : Int) = pathF d i ∧ pathErr d (i : Int) = 0 ∧ pathList (d.set i y) (i : Int) = pathF d i ∧ pathErr (d.set i y) (i : Int) = 0) := by
    have hbp : badPath d (i : Int) = false := decide_eq_false (by rw [HDL.out]; omega)
    have hbp2 : badPath (d.set i y) (i : Int) = false := decide_eq_false (by rw [HDS.out]; omega)
    refine ⟨?_, ?_, ?_, ?_⟩
    · unfold pathList; rw [hbp]; rfl
    · unfold pathErr; rw [hbp]; rfl
    · unfold pathList; rw [hbp2]; exact pathF_set _ d i y rfl
    · unfold pathErr; rw [hbp2]; rfl
  have HEQ : Hid ((rootF d == rootF (d.set i y)) = (y == x)) := root_set d i x y HXX.out HDI.out hyin
  have HCK : Hid (checkF (rootF (d.set i y)) (n : Int) (i : Int) y (pathF d i) = 0) := by have := check_changed d i y (by rw [HDL.out]; exact hin) (by rw [HDL.out]; omega); rw [HDL.out] at this; exact this
  clear HS3 HB4 hsz hci hfi hg1 hg2
  refine wp_region_text 10 [RKnown (.slice pr n cr) [(8, none)],
    RKnown (.int .i64 (i : Int)) [(9, none)],
    RFact (fun Sx vx wx => PathsV (pathF d i) 0 Sx vx wx) (PathsV.stable (pathF d i) 0) [(36, some 0), (37, some 1)],
    RKnown (.slice (some ⟨g, 0, none⟩) n cap) [(10, none)],
    RKnown (.int .i64 (i : Int)) [(9, none)],
    RFact (fun Sx vx wx => PathsV (pathF d i) 0 Sx vx wx) (PathsV.stable (pathF d i) 0) [(39, some 3), (40, some 4)],
    RAlloc 29 #[.slice none 0 0, .int .i64 0],
    RAlloc 29 #[.slice none 0 0, .int .i64 0],
    RFill 6 (fun Sx vx wx => BoxOf 29 (fun Sb vb wb => PathsV (pathF d i) 0 Sb vb wb) Sx vx wx) (BoxOf.stable 29 (PathsV.stable (pathF d i) 0)) [(38, some 2)],
    RFill 7 (fun Sx vx wx => BoxOf 29 (fun Sb vb wb => PathsV (pathF d i) 0 Sb vb wb) Sx vx wx) (BoxOf.stable 29 (PathsV.stable (pathF d i) 0)) [(41, some 5)]] (by kernel_rfl) (by kernel_rfl) ?_ ?_
  · refine ⟨?_, ?_, ?_, ?_, ?_, ?_, ?_, ?_, ?_, ?_, trivial⟩
    · refine OpOk.grow rfl (GuardYes.none rfl) ?_
      intro ρ S w1 hc hB hS hI
      have h8 : ρ (.tmp 8) = .slice pr n cr := And.left hI
      clear hI; have HB := Lib.hid hB; have HS := Lib.hid hS; clear hB hS
      exact Upd.of (ex_move rfl) ⟨Below.refl _ _, h8⟩
    · refine OpOk.grow rfl (GuardYes.none rfl) ?_
      intro ρ S w1 hc hB hS hI
      have h9 : ρ (.tmp 9) = .int .i64 (i : Int) := And.left hI
      clear hI; have HB := Lib.hid hB; have HS := Lib.hid hS; clear hB hS
      exact Upd.of (ex_move rfl) ⟨Below.refl _ _, h9⟩
    · refine OpOk.grow rfl (GuardYes.none rfl) ?_
      intro ρ S w1 hc hB hS hI
      have h36 : ρ (.tmp 36) = .slice pr n cr := And.left hI
      have h37 : ρ (.tmp 37) = .int .i64 (i : Int) := And.left (And.right hI)
      have hc1 := hc.const; have hc2 := hc.func
      clear hI; have HB := Lib.hid hB; have HS := Lib.hid hS; clear hB hS
      refine Upd.call (vs := #[.slice pr n cr, .int .i64 (i : Int)]) rfl hc (by kernel_rfl) (by simp only [List.map_toArray, List.map_cons, List.map_nil, h36, h37]) ?_
      refine (pathsV_calls _ d _ _ S _ (by rw [HDL.out]; omega) (HD4.out.base HB.out HS.out)).mono ?_
      rintro e w2 ⟨r, rfl, hr, hb2⟩
      have hr2 := hr; rw [HPL.out.1, HPL.out.2.1] at hr2
      exact ⟨_, rfl, hb2, hr2⟩
    · refine OpOk.grow rfl (GuardYes.none rfl) ?_
      intro ρ S w1 hc hB hS hI
      have h10 : ρ (.tmp 10) = .slice (some ⟨g, 0, none⟩) n cap := And.left hI
      clear hI; have HB := Lib.hid hB; have HS := Lib.hid hS; clear hB hS
      exact Upd.of (ex_move rfl) ⟨Below.refl _ _, h10⟩
    · refine OpOk.grow rfl (GuardYes.none rfl) ?_
      intro ρ S w1 hc hB hS hI
      have h9 : ρ (.tmp 9) = .int .i64 (i : Int) := And.left hI
      clear hI; have HB := Lib.hid hB; have HS := Lib.hid hS; clear hB hS
      exact Upd.of (ex_move rfl) ⟨Below.refl _ _, h9⟩
    · refine OpOk.grow rfl (GuardYes.none rfl) ?_
      intro ρ S w1 hc hB hS hI
      have h39 : ρ (.tmp 39) = .slice (some ⟨g, 0, none⟩) n cap := And.left hI
      have h40 : ρ (.tmp 40) = .int .i64 (i : Int) := And.left (And.right hI)
      have hc1 := hc.const; have hc2 := hc.func
      clear hI; have HB := Lib.hid hB; have HS := Lib.hid hS; clear hB hS
      refine Upd.call (vs := #[.slice (some ⟨g, 0, none⟩) n cap, .int .i64 (i : Int)]) rfl hc (by kernel_rfl) (by simp only [List.map_toArray, List.map_cons, List.map_nil, h39, h40]) ?_
      refine (pathsV_calls _ (d.set i y) _ _ S _ (by rw [HDS.out]; omega) (HE.out.base HB.out HS.out)).mono ?_
      rintro e w2 ⟨r, rfl, hr, hb2⟩
      have hr2 := hr; rw [HPL.out.2.2.1, HPL.out.2.2.2] at hr2
      exact ⟨_, rfl, hb2, hr2⟩
    · refine OpOk.alloc rfl (GuardYes.none rfl) (fun ρ w => ?_)
      go_simp
    · refine OpOk.alloc rfl (GuardYes.none rfl) (fun ρ w => ?_)
      go_simp
    · refine OpOk.fill rfl rfl rfl (GuardYes.none rfl) ?_
      intro ρ S w1 b hc hB hS hI hptr hblk hpriv
      have h38 : PathsV (pathF d i) 0 S (ρ (.tmp 38)) w1 := And.left hI
      clear hI; have HB := Lib.hid hB; have HS := Lib.hid hS; clear hB hS
      exact fill_box (sz := 2) (PathsV.stable (pathF d i) 0) (PathsV.shape (pathF d i) 0) rfl hptr hblk hpriv (by kernel_rfl) rfl h38
    · refine OpOk.fill rfl rfl rfl (GuardYes.none rfl) ?_
      intro ρ S w1 b hc hB hS hI hptr hblk hpriv
      have h41 : PathsV (pathF d i) 0 S (ρ (.tmp 41)) w1 := And.left hI
      clear hI; have HB := Lib.hid hB; have HS := Lib.hid hS; clear hB hS
      exact fill_box (sz := 2) (PathsV.stable (pathF d i) 0) (PathsV.shape (pathF d i) 0) rfl hptr hblk hpriv (by kernel_rfl) rfl h41
  · intro env1 Sr1 wr1 hB1 hSr1 hF1
    have f0 : env1 0 = .slice pr n cr := hF1 0 (by decide) rfl
    have f1 : env1 1 = .int .i64 (i : Int) := hF1 1 (by decide) rfl
    have f2 : PathsV (pathF d i) 0 Sr1 (env1 2) wr1 := hF1 2 (by decide) rfl
    have f3 : env1 3 = .slice (some ⟨g, 0, none⟩) n cap := hF1 3 (by decide) rfl
    have f4 : env1 4 = .int .i64 (i : Int) := hF1 4 (by decide) rfl
    have f5 : PathsV (pathF d i) 0 Sr1 (env1 5) wr1 := hF1 5 (by decide) rfl
    have f8 : BoxOf 29 (fun Sb vb wb => PathsV (pathF d i) 0 Sb vb wb) Sr1 (env1 6) wr1 := hF1 8 (by decide) rfl
    have f9 : BoxOf 29 (fun Sb vb wb => PathsV (pathF d i) 0 Sb vb wb) Sr1 (env1 7) wr1 := hF1 9 (by decide) rfl
    clear hF1
    simp only [List.take_succ_cons, List.take_nil, List.drop_nil, List.drop_succ_cons, putAll, Act.put, List.setIfInBounds_toArray, List.set_cons_succ, List.set_cons_zero, Nat.reduceAdd, f0, f1, f3, f4]
    clear f0 f1 f3 f4
    generalize env1 2 = e38 at *
    generalize env1 5 = e41 at *
    generalize env1 6 = e11 at *
    generalize env1 7 = e12 at *
    refine wpList_nil ?_
    obtain ⟨b11, cs11, rfl, -, hb11, p11, c11, hv11, hr11⟩ := f8
    simp only [Value.agg.injEq] at hv11
    subst hv11
    have HB11 := Lib.hid hb11; have HR11 := Lib.hid hr11
    clear hb11 hr11
    obtain ⟨b12, cs12, rfl, -, hb12, p12, c12, hv12, hr12⟩ := f9
    simp only [Value.agg.injEq] at hv12
    subst hv12
    have HB12 := Lib.hid hb12; have HR12 := Lib.hid hr12
    clear hb12 hr12
    have HD4 := Lib.hid (HD4.out.later hB1)
    have HE := Lib.hid (HE.out.later hB1)
    have HW4 := Lib.hid (HW4.out.trans (hB1.mono HW4.out.size))
    clear hB1 hSr1
    obtain ⟨bd, od, rfl, -, hbd, hcd⟩ := HD4.out.cellAt HXX.out
    have HCD := Lib.hid hcd
    clear hcd
    go_upto_region 9 with (fail)
    refine wp_region_table 47 [RKnown (.pointer (some ⟨b11, 1, none⟩)) [(11, none)],
      RKnown (.int .i64 0) [(42, some 0)],
      RKnown (.bool true) [(43, some 1)],
      RKnown (.bool true) [(44, some 2)],
      RKnown (.pointer (some ⟨b12, 1, none⟩)) [(12, none)],
      RKnown (.int .i64 0) [(46, some 4)],
      RKnown (.bool true) [(47, some 5)],
      RKnown (.bool true) [(45, some 3), (48, some 6)],
      RKnown (.bool true) [(49, some 7)],
      RKnown (.pointer (some ⟨b11, 0, none⟩)) [(11, none)],
      RKnown (.slice p11 (pathF d i).length c11) [(51, some 9)],
      RKnown (.pointer (some ⟨b12, 0, none⟩)) [(12, none)],
      RKnown (.slice p12 (pathF d i).length c12) [(53, some 11)],
      RKnown (.bool true) [(52, some 10), (54, some 12)],
      RKnown (.bool true) [(50, some 8), (55, some 13)],
      RKnown (.bool true) [(56, some 14)],
      RKnown (.slice (some ⟨bd, od, none⟩) n cr) [(8, none)],
      RKnown (.int .u64 (rootF d)) [(58, some 16)],
      RKnown (.slice (some ⟨g, 0, none⟩) n cap) [(10, none)],
      RKnown (.int .u64 (rootF (d.set i y))) [(60, some 18)],
      RKnown (.bool (rootF d == rootF (d.set i y))) [(59, some 17), (61, some 19)],
      RKnown (.int .u64 y) [(2, none)],
      RKnown (.slice (some ⟨bd, od, none⟩) n cr) [(8, none)],
      RKnown (.int .i64 (i : Int)) [(9, none)],
      RKnown (.pointer (some ⟨bd, od + i, none⟩)) [(64, some 22), (65, some 23)],
      RKnown (.int .u64 x) [(66, some 24)],
      RKnown (.bool (y == x)) [(63, some 21), (67, some 25)],
      RKnown (.bool true) [(62, some 20), (68, some 26)],
      RKnown (.bool true) [(57, some 15), (69, some 27)],
      RKnown (.bool true) [(70, some 28)],
      RKnown (.slice (some ⟨g, 0, none⟩) n cap) [(10, none)],
      RKnown (.int .u64 (rootF (d.set i y))) [(72, some 30)],
      RKnown (.slice (some ⟨bd, od, none⟩) n cr) [(8, none)],
      RKnown (.int .i64 (n : Nat)) [(74, some 32)],
      RKnown (.pointer (some ⟨b11, 0, none⟩)) [(11, none)],
      RKnown (.slice p11 (pathF d i).length c11) [(76, some 34)],
      RKnown (.agg #[.int .i64 (n : Int), .slice p11 (pathF d i).length c11]) [(75, some 33), (77, some 35)],
      RKnown (.int .i64 (i : Int)) [(9, none)],
      RKnown (.int .u64 y) [(2, none)],
      RKnown (.agg #[.int .i64 (i : Int), .int .u64 y]) [(79, some 37), (80, some 38)],
      RKnown (.int .i64 0) [(73, some 31), (78, some 36), (81, some 39)],
      RKnown (.bool true) [(82, some 40)],
      RKnown (.bool true) [(71, some 29), (83, some 41)],
      RKnown (.bool true) [(84, some 42)],
      RKnown (.bool true) [(7, none)],
      RKnown (.bool true) [(85, some 43), (86, some 44)],
      RKnown (.bool true) [(87, some 45)]] (by kernel_rfl) (by kernel_rfl) (by kernel_rfl) ?_ ?_
    · refine ⟨?_, ?_, ?_, ?_, ?_, ?_, ?_, ?_, ?_, ?_, ?_, ?_, ?_, ?_, ?_, ?_, ?_, ?_, ?_, ?_, ?_, ?_, ?_, ?_, ?_, ?_, ?_, ?_, ?_, ?_, ?_, ?_, ?_, ?_, ?_, ?_, ?_, ?_, ?_, ?_, ?_, ?_, ?_, ?_, ?_, ?_, ?_, trivial⟩
      · refine OpOk.grow rfl (GuardYes.none rfl) ?_
        intro ρ S w1 hc hB hS hI
        have h11 : ρ (.tmp 11) = .pointer (some ⟨b11, 0, none⟩) := And.left hI
        clear hI; have HB := Lib.hid hB; have HS := Lib.hid hS; clear hB hS
        refine Upd.hide fun R1 hR1 => ?_
        go_simp
        exact Upd.ok (hR1 _ _ ⟨Below.refl _ _, rfl⟩)
      · refine OpOk.grow rfl (GuardYes.none rfl) ?_
        intro ρ S w1 hc hB hS hI
        have h42 : ρ (.tmp 42) = .pointer (some ⟨b11, 1, none⟩) := And.left hI
        clear hI; have HB := Lib.hid hB; have HS := Lib.hid hS; clear hB hS
        have hcl := (HB11.out.later HB.out).cell 1 (v := .int .i64 0) rfl
        refine Upd.hide fun R1 hR1 => ?_
        go_simp
        exact Upd.ok (hR1 _ _ ⟨Below.refl _ _, rfl⟩)
      · refine OpOk.grow rfl (GuardYes.none rfl) ?_
        intro ρ S w1 hc hB hS hI
        have h43 : ρ (.tmp 43) = .int .i64 0 := And.left hI
        have hc1 := hc.const; have hc2 := hc.func
        clear hI; have HB := Lib.hid hB; have HS := Lib.hid hS; clear hB hS
        refine Upd.hide fun R1 hR1 => ?_
        go_simp
        exact Upd.ok (hR1 _ _ ⟨Below.refl _ _, by first | rfl | simp⟩)
      · refine OpOk.grow rfl (GuardYes.none rfl) ?_
        intro ρ S w1 hc hB hS hI
        have h44 : ρ (.tmp 44) = .bool true := And.left hI
        clear hI; have HB := Lib.hid hB; have HS := Lib.hid hS; clear hB hS
        exact Upd.of (ex_move rfl) ⟨Below.refl _ _, h44⟩
      · refine OpOk.grow rfl (GuardYes.some rfl (fun _ _ _ h => h)) ?_
        intro ρ S w1 hc hB hS hI
        have h12 : ρ (.tmp 12) = .pointer (some ⟨b12, 0, none⟩) := And.left hI
        clear hI; have HB := Lib.hid hB; have HS := Lib.hid hS; clear hB hS
        refine Upd.hide fun R1 hR1 => ?_
        go_simp
        exact Upd.ok (hR1 _ _ ⟨Below.refl _ _, rfl⟩)
      · refine OpOk.grow rfl (GuardYes.some rfl (fun _ _ _ h => h)) ?_
        intro ρ S w1 hc hB hS hI
        have h46 : ρ (.tmp 46) = .pointer (some ⟨b12, 1, none⟩) := And.left hI
        clear hI; have HB := Lib.hid hB; have HS := Lib.hid hS; clear hB hS
        have hcl := (HB12.out.later HB.out).cell 1 (v := .int .i64 0) rfl
        refine Upd.hide fun R1 hR1 => ?_
        go_simp
        exact Upd.ok (hR1 _ _ ⟨Below.refl _ _, rfl⟩)
      · refine OpOk.grow rfl (GuardYes.some rfl (fun _ _ _ h => h)) ?_
        intro ρ S w1 hc hB hS hI
        have h47 : ρ (.tmp 47) = .int .i64 0 := And.left hI
        have hc1 := hc.const; have hc2 := hc.func
        clear hI; have HB := Lib.hid hB; have HS := Lib.hid hS; clear hB hS
        refine Upd.hide fun R1 hR1 => ?_
        go_simp
        exact Upd.ok (hR1 _ _ ⟨Below.refl _ _, by first | rfl | simp⟩)
      · refine OpOk.grow rfl (GuardYes.none rfl) ?_
        intro ρ S w1 hc hB hS hI
        have h45 : ρ (.tmp 45) = .bool true := And.left hI
        have h48 : ρ (.tmp 48) = .bool true := And.left (And.right hI)
        have hc1 := hc.const; have hc2 := hc.func
        clear hI; have HB := Lib.hid hB; have HS := Lib.hid hS; clear hB hS
        exact Upd.of (ex_pick rfl h45) ⟨Below.refl _ _, h48⟩
      · refine OpOk.grow rfl (GuardYes.none rfl) ?_
        intro ρ S w1 hc hB hS hI
        have h49 : ρ (.tmp 49) = .bool true := And.left hI
        clear hI; have HB := Lib.hid hB; have HS := Lib.hid hS; clear hB hS
        exact Upd.of (ex_move rfl) ⟨Below.refl _ _, h49⟩
      · refine OpOk.grow rfl (GuardYes.some rfl (fun _ _ _ h => h)) ?_
        intro ρ S w1 hc hB hS hI
        have h11 : ρ (.tmp 11) = .pointer (some ⟨b11, 0, none⟩) := And.left hI
        clear hI; have HB := Lib.hid hB; have HS := Lib.hid hS; clear hB hS
        refine Upd.hide fun R1 hR1 => ?_
        go_simp
        exact Upd.ok (hR1 _ _ ⟨Below.refl _ _, rfl⟩)
      · refine OpOk.grow rfl (GuardYes.some rfl (fun _ _ _ h => h)) ?_
        intro ρ S w1 hc hB hS hI
        have h51 : ρ (.tmp 51) = .pointer (some ⟨b11, 0, none⟩) := And.left hI
        clear hI; have HB := Lib.hid hB; have HS := Lib.hid hS; clear hB hS
        have hcl := (HB11.out.later HB.out).cell 0 (v := .slice p11 (pathF d i).length c11) rfl
        refine Upd.hide fun R1 hR1 => ?_
        go_simp
        exact Upd.ok (hR1 _ _ ⟨Below.refl _ _, rfl⟩)
      · refine OpOk.grow rfl (GuardYes.some rfl (fun _ _ _ h => h)) ?_
        intro ρ S w1 hc hB hS hI
        have h12 : ρ (.tmp 12) = .pointer (some ⟨b12, 0, none⟩) := And.left hI
        clear hI; have HB := Lib.hid hB; have HS := Lib.hid hS; clear hB hS
        refine Upd.hide fun R1 hR1 => ?_
        go_simp
        exact Upd.ok (hR1 _ _ ⟨Below.refl _ _, rfl⟩)
      · refine OpOk.grow rfl (GuardYes.some rfl (fun _ _ _ h => h)) ?_
        intro ρ S w1 hc hB hS hI
        have h53 : ρ (.tmp 53) = .pointer (some ⟨b12, 0, none⟩) := And.left hI
        clear hI; have HB := Lib.hid hB; have HS := Lib.hid hS; clear hB hS
        have hcl := (HB12.out.later HB.out).cell 0 (v := .slice p12 (pathF d i).length c12) rfl
        refine Upd.hide fun R1 hR1 => ?_
        go_simp
        exact Upd.ok (hR1 _ _ ⟨Below.refl _ _, rfl⟩)
      · refine OpOk.grow rfl (GuardYes.some rfl (fun _ _ _ h => h)) ?_
        intro ρ S w1 hc hB hS hI
        have h52 : ρ (.tmp 52) = .slice p11 (pathF d i).length c11 := And.left hI
        have h54 : ρ (.tmp 54) = .slice p12 (pathF d i).length c12 := And.left (And.right hI)
        have hc1 := hc.const; have hc2 := hc.func
        clear hI; have HB := Lib.hid hB; have HS := Lib.hid hS; clear hB hS
        refine Upd.call (vs := #[.slice p11 (pathF d i).length c11, .slice p12 (pathF d i).length c12]) rfl hc (by kernel_rfl) (by simp only [List.map_toArray, List.map_cons, List.map_nil, h52, h54]) ?_
        refine (Same_calls _ _ _ _ S S _ (HR11.out.base HB.out HS.out) (HR12.out.base HB.out HS.out)).mono ?_
        rintro e w2 ⟨rfl, hb2⟩
        exact ⟨_, rfl, hb2, congrArg Value.bool (decide_eq_true rfl)⟩
      · refine OpOk.grow rfl (GuardYes.none rfl) ?_
        intro ρ S w1 hc hB hS hI
        have h50 : ρ (.tmp 50) = .bool true := And.left hI
        have h55 : ρ (.tmp 55) = .bool true := And.left (And.right hI)
        have hc1 := hc.const; have hc2 := hc.func
        clear hI; have HB := Lib.hid hB; have HS := Lib.hid hS; clear hB hS
        exact Upd.of (ex_pick rfl h50) ⟨Below.refl _ _, h55⟩
      · refine OpOk.grow rfl (GuardYes.none rfl) ?_
        intro ρ S w1 hc hB hS hI
        have h56 : ρ (.tmp 56) = .bool true := And.left hI
        clear hI; have HB := Lib.hid hB; have HS := Lib.hid hS; clear hB hS
        exact Upd.of (ex_move rfl) ⟨Below.refl _ _, h56⟩
      · refine OpOk.grow rfl (GuardYes.some rfl (fun _ _ _ h => h)) ?_
        intro ρ S w1 hc hB hS hI
        have h8 : ρ (.tmp 8) = .slice (some ⟨bd, od, none⟩) n cr := And.left hI
        clear hI; have HB := Lib.hid hB; have HS := Lib.hid hS; clear hB hS
        exact Upd.of (ex_move rfl) ⟨Below.refl _ _, h8⟩
      · refine OpOk.grow rfl (GuardYes.some rfl (fun _ _ _ h => h)) ?_
        intro ρ S w1 hc hB hS hI
        have h58 : ρ (.tmp 58) = .slice (some ⟨bd, od, none⟩) n cr := And.left hI
        have hc1 := hc.const; have hc2 := hc.func
        clear hI; have HB := Lib.hid hB; have HS := Lib.hid hS; clear hB hS
        refine Upd.call (vs := #[.slice (some ⟨bd, od, none⟩) n cr]) rfl hc (by kernel_rfl) (by simp only [List.map_toArray, List.map_cons, List.map_nil, h58]) ?_
        refine (root_calls _ d _ _ (by rw [HDL.out]; omega) (HD4.out.base HB.out HS.out)).mono ?_
        rintro e w2 ⟨rfl, hb2⟩
        exact ⟨_, rfl, hb2, rfl⟩
      · refine OpOk.grow rfl (GuardYes.some rfl (fun _ _ _ h => h)) ?_
        intro ρ S w1 hc hB hS hI
        have h10 : ρ (.tmp 10) = .slice (some ⟨g, 0, none⟩) n cap := And.left hI
        clear hI; have HB := Lib.hid hB; have HS := Lib.hid hS; clear hB hS
        exact Upd.of (ex_move rfl) ⟨Below.refl _ _, h10⟩
      · refine OpOk.grow rfl (GuardYes.some rfl (fun _ _ _ h => h)) ?_
        intro ρ S w1 hc hB hS hI
        have h60 : ρ (.tmp 60) = .slice (some ⟨g, 0, none⟩) n cap := And.left hI
        have hc1 := hc.const; have hc2 := hc.func
        clear hI; have HB := Lib.hid hB; have HS := Lib.hid hS; clear hB hS
        refine Upd.call (vs := #[.slice (some ⟨g, 0, none⟩) n cap]) rfl hc (by kernel_rfl) (by simp only [List.map_toArray, List.map_cons, List.map_nil, h60]) ?_
        refine (root_calls _ (d.set i y) _ _ (by rw [HDS.out]; omega) (HE.out.base HB.out HS.out)).mono ?_
        rintro e w2 ⟨rfl, hb2⟩
        exact ⟨_, rfl, hb2, rfl⟩
      · refine OpOk.grow rfl (GuardYes.some rfl (fun _ _ _ h => h)) ?_
        intro ρ S w1 hc hB hS hI
        have h59 : ρ (.tmp 59) = .int .u64 (rootF d) := And.left hI
        have h61 : ρ (.tmp 61) = .int .u64 (rootF (d.set i y)) := And.left (And.right hI)
        clear hI; have HB := Lib.hid hB; have HS := Lib.hid hS; clear hB hS
        refine Upd.hide fun R1 hR1 => ?_
        go_simp
        exact Upd.ok (hR1 _ _ ⟨Below.refl _ _, rfl⟩)
      · refine OpOk.grow rfl (GuardYes.some rfl (fun _ _ _ h => h)) ?_
        intro ρ S w1 hc hB hS hI
        have h2 : ρ (.tmp 2) = .int .u64 y := And.left hI
        clear hI; have HB := Lib.hid hB; have HS := Lib.hid hS; clear hB hS
        exact Upd.of (ex_move rfl) ⟨Below.refl _ _, h2⟩
      · refine OpOk.grow rfl (GuardYes.some rfl (fun _ _ _ h => h)) ?_
        intro ρ S w1 hc hB hS hI
        have h8 : ρ (.tmp 8) = .slice (some ⟨bd, od, none⟩) n cr := And.left hI
        clear hI; have HB := Lib.hid hB; have HS := Lib.hid hS; clear hB hS
        exact Upd.of (ex_move rfl) ⟨Below.refl _ _, h8⟩
      · refine OpOk.grow rfl (GuardYes.some rfl (fun _ _ _ h => h)) ?_
        intro ρ S w1 hc hB hS hI
        have h9 : ρ (.tmp 9) = .int .i64 (i : Int) := And.left hI
        clear hI; have HB := Lib.hid hB; have HS := Lib.hid hS; clear hB hS
        exact Upd.of (ex_move rfl) ⟨Below.refl _ _, h9⟩
      · refine OpOk.grow rfl (GuardYes.some rfl (fun _ _ _ h => h)) ?_
        intro ρ S w1 hc hB hS hI
        have h64 : ρ (.tmp 64) = .slice (some ⟨bd, od, none⟩) n cr := And.left hI
        have h65 : ρ (.tmp 65) = .int .i64 (i : Int) := And.left (And.right hI)
        clear hI; have HB := Lib.hid hB; have HS := Lib.hid hS; clear hB hS
        refine Upd.hide fun R1 hR1 => ?_
        go_simp
        exact Upd.ok (hR1 _ _ ⟨Below.refl _ _, rfl⟩)
      · refine OpOk.grow rfl (GuardYes.some rfl (fun _ _ _ h => h)) ?_
        intro ρ S w1 hc hB hS hI
        have h66 : ρ (.tmp 66) = .pointer (some ⟨bd, od + i, none⟩) := And.left hI
        clear hI; have HB := Lib.hid hB; have HS := Lib.hid hS; clear hB hS
        have hcl : w1.cell? ⟨bd, od + i, none⟩ = some (.int .u64 x) := ((HB.out).cell (p := ⟨bd, od + i, none⟩) hbd).trans HCD.out
        refine Upd.hide fun R1 hR1 => ?_
        go_simp
        exact Upd.ok (hR1 _ _ ⟨Below.refl _ _, rfl⟩)
      · refine OpOk.grow rfl (GuardYes.some rfl (fun _ _ _ h => h)) ?_
        intro ρ S w1 hc hB hS hI
        have h63 : ρ (.tmp 63) = .int .u64 y := And.left hI
        have h67 : ρ (.tmp 67) = .int .u64 x := And.left (And.right hI)
        clear hI; have HB := Lib.hid hB; have HS := Lib.hid hS; clear hB hS
        refine Upd.hide fun R1 hR1 => ?_
        go_simp
        exact Upd.ok (hR1 _ _ ⟨Below.refl _ _, rfl⟩)
      · refine OpOk.grow rfl (GuardYes.some rfl (fun _ _ _ h => h)) ?_
        intro ρ S w1 hc hB hS hI
        have h62 : ρ (.tmp 62) = .bool (rootF d == rootF (d.set i y)) := And.left hI
        have h68 : ρ (.tmp 68) = .bool (y == x) := And.left (And.right hI)
        clear hI; have HB := Lib.hid hB; have HS := Lib.hid hS; clear hB hS
        have heq := HEQ.out
        refine Upd.hide fun R1 hR1 => ?_
        go_simp
        exact Upd.ok (hR1 _ _ ⟨Below.refl _ _, by first | rfl | simp⟩)
      · refine OpOk.grow rfl (GuardYes.none rfl) ?_
        intro ρ S w1 hc hB hS hI
        have h57 : ρ (.tmp 57) = .bool true := And.left hI
        have h69 : ρ (.tmp 69) = .bool true := And.left (And.right hI)
        have hc1 := hc.const; have hc2 := hc.func
        clear hI; have HB := Lib.hid hB; have HS := Lib.hid hS; clear hB hS
        exact Upd.of (ex_pick rfl h57) ⟨Below.refl _ _, h69⟩
      · refine OpOk.grow rfl (GuardYes.none rfl) ?_
        intro ρ S w1 hc hB hS hI
        have h70 : ρ (.tmp 70) = .bool true := And.left hI
        clear hI; have HB := Lib.hid hB; have HS := Lib.hid hS; clear hB hS
        exact Upd.of (ex_move rfl) ⟨Below.refl _ _, h70⟩
      · refine OpOk.grow rfl (GuardYes.some rfl (fun _ _ _ h => h)) ?_
        intro ρ S w1 hc hB hS hI
        have h10 : ρ (.tmp 10) = .slice (some ⟨g, 0, none⟩) n cap := And.left hI
        clear hI; have HB := Lib.hid hB; have HS := Lib.hid hS; clear hB hS
        exact Upd.of (ex_move rfl) ⟨Below.refl _ _, h10⟩
      · refine OpOk.grow rfl (GuardYes.some rfl (fun _ _ _ h => h)) ?_
        intro ρ S w1 hc hB hS hI
        have h72 : ρ (.tmp 72) = .slice (some ⟨g, 0, none⟩) n cap := And.left hI
        have hc1 := hc.const; have hc2 := hc.func
        clear hI; have HB := Lib.hid hB; have HS := Lib.hid hS; clear hB hS
        refine Upd.call (vs := #[.slice (some ⟨g, 0, none⟩) n cap]) rfl hc (by kernel_rfl) (by simp only [List.map_toArray, List.map_cons, List.map_nil, h72]) ?_
        refine (root_calls _ (d.set i y) _ _ (by rw [HDS.out]; omega) (HE.out.base HB.out HS.out)).mono ?_
        rintro e w2 ⟨rfl, hb2⟩
        exact ⟨_, rfl, hb2, rfl⟩
      · refine OpOk.grow rfl (GuardYes.some rfl (fun _ _ _ h => h)) ?_
        intro ρ S w1 hc hB hS hI
        have h8 : ρ (.tmp 8) = .slice (some ⟨bd, od, none⟩) n cr := And.left hI
        clear hI; have HB := Lib.hid hB; have HS := Lib.hid hS; clear hB hS
        exact Upd.of (ex_move rfl) ⟨Below.refl _ _, h8⟩
      · refine OpOk.grow rfl (GuardYes.some rfl (fun _ _ _ h => h)) ?_
        intro ρ S w1 hc hB hS hI
        have h74 : ρ (.tmp 74) = .slice (some ⟨bd, od, none⟩) n cr := And.left hI
        clear hI; have HB := Lib.hid hB; have HS := Lib.hid hS; clear hB hS
        exact Upd.of (ex_len_slice rfl (by kernel_rfl) h74) ⟨Below.refl _ _, rfl⟩
      · refine OpOk.grow rfl (GuardYes.some rfl (fun _ _ _ h => h)) ?_
        intro ρ S w1 hc hB hS hI
        have h11 : ρ (.tmp 11) = .pointer (some ⟨b11, 0, none⟩) := And.left hI
        clear hI; have HB := Lib.hid hB; have HS := Lib.hid hS; clear hB hS
        refine Upd.hide fun R1 hR1 => ?_
        go_simp
        exact Upd.ok (hR1 _ _ ⟨Below.refl _ _, rfl⟩)
      · refine OpOk.grow rfl (GuardYes.some rfl (fun _ _ _ h => h)) ?_
        intro ρ S w1 hc hB hS hI
        have h76 : ρ (.tmp 76) = .pointer (some ⟨b11, 0, none⟩) := And.left hI
        clear hI; have HB := Lib.hid hB; have HS := Lib.hid hS; clear hB hS
        have hcl := (HB11.out.later HB.out).cell 0 (v := .slice p11 (pathF d i).length c11) rfl
        refine Upd.hide fun R1 hR1 => ?_
        go_simp
        exact Upd.ok (hR1 _ _ ⟨Below.refl _ _, rfl⟩)
      · refine OpOk.grow rfl (GuardYes.some rfl (fun _ _ _ h => h)) ?_
        intro ρ S w1 hc hB hS hI
        have h75 : ρ (.tmp 75) = .int .i64 (n : Nat) := And.left hI
        have h77 : ρ (.tmp 77) = .slice p11 (pathF d i).length c11 := And.left (And.right hI)
        clear hI; have HB := Lib.hid hB; have HS := Lib.hid hS; clear hB hS
        refine Upd.hide fun R1 hR1 => ?_
        go_simp
        exact Upd.ok (hR1 _ _ ⟨Below.refl _ _, rfl⟩)
      · refine OpOk.grow rfl (GuardYes.some rfl (fun _ _ _ h => h)) ?_
        intro ρ S w1 hc hB hS hI
        have h9 : ρ (.tmp 9) = .int .i64 (i : Int) := And.left hI
        clear hI; have HB := Lib.hid hB; have HS := Lib.hid hS; clear hB hS
        exact Upd.of (ex_move rfl) ⟨Below.refl _ _, h9⟩
      · refine OpOk.grow rfl (GuardYes.some rfl (fun _ _ _ h => h)) ?_
        intro ρ S w1 hc hB hS hI
        have h2 : ρ (.tmp 2) = .int .u64 y := And.left hI
        clear hI; have HB := Lib.hid hB; have HS := Lib.hid hS; clear hB hS
        exact Upd.of (ex_move rfl) ⟨Below.refl _ _, h2⟩
      · refine OpOk.grow rfl (GuardYes.some rfl (fun _ _ _ h => h)) ?_
        intro ρ S w1 hc hB hS hI
        have h79 : ρ (.tmp 79) = .int .i64 (i : Int) := And.left hI
        have h80 : ρ (.tmp 80) = .int .u64 y := And.left (And.right hI)
        clear hI; have HB := Lib.hid hB; have HS := Lib.hid hS; clear hB hS
        refine Upd.hide fun R1 hR1 => ?_
        go_simp
        exact Upd.ok (hR1 _ _ ⟨Below.refl _ _, rfl⟩)
      · refine OpOk.grow rfl (GuardYes.some rfl (fun _ _ _ h => h)) ?_
        intro ρ S w1 hc hB hS hI
        have h73 : ρ (.tmp 73) = .int .u64 (rootF (d.set i y)) := And.left hI
        have h78 : ρ (.tmp 78) = .agg #[.int .i64 (n : Int), .slice p11 (pathF d i).length c11] := And.left (And.right hI)
        have h81 : ρ (.tmp 81) = .agg #[.int .i64 (i : Int), .int .u64 y] := And.left (And.right (And.right hI))
        have hc1 := hc.const; have hc2 := hc.func
        clear hI; have HB := Lib.hid hB; have HS := Lib.hid hS; clear hB hS
        refine Upd.call (vs := #[.int .u64 (rootF (d.set i y)), .agg #[.int .i64 (n : Int), .slice p11 (pathF d i).length c11], .agg #[.int .i64 (i : Int), .int .u64 y]]) rfl hc (by kernel_rfl) (by simp only [List.map_toArray, List.map_cons, List.map_nil, h73, h78, h81]) ?_
        refine (check_calls _ _ _ _ _ _ S _ (HR11.out.base HB.out HS.out)).mono ?_
        rintro e w2 ⟨rfl, hb2⟩
        exact ⟨_, rfl, hb2, congrArg (Value.int .i64) HCK.out⟩
      · refine OpOk.grow rfl (GuardYes.some rfl (fun _ _ _ h => h)) ?_
        intro ρ S w1 hc hB hS hI
        have h82 : ρ (.tmp 82) = .int .i64 0 := And.left hI
        have hc1 := hc.const; have hc2 := hc.func
        clear hI; have HB := Lib.hid hB; have HS := Lib.hid hS; clear hB hS
        refine Upd.hide fun R1 hR1 => ?_
        go_simp
        exact Upd.ok (hR1 _ _ ⟨Below.refl _ _, by first | rfl | simp⟩)
      · refine OpOk.grow rfl (GuardYes.none rfl) ?_
        intro ρ S w1 hc hB hS hI
        have h71 : ρ (.tmp 71) = .bool true := And.left hI
        have h83 : ρ (.tmp 83) = .bool true := And.left (And.right hI)
        have hc1 := hc.const; have hc2 := hc.func
        clear hI; have HB := Lib.hid hB; have HS := Lib.hid hS; clear hB hS
        exact Upd.of (ex_pick rfl h71) ⟨Below.refl _ _, h83⟩
      · refine OpOk.grow rfl (GuardYes.none rfl) ?_
        intro ρ S w1 hc hB hS hI
        have h84 : ρ (.tmp 84) = .bool true := And.left hI
        clear hI; have HB := Lib.hid hB; have HS := Lib.hid hS; clear hB hS
        exact Upd.of (ex_move rfl) ⟨Below.refl _ _, h84⟩
      · refine OpOk.grow rfl (GuardYes.some rfl (fun _ _ _ h => h)) ?_
        intro ρ S w1 hc hB hS hI
        have h7 : ρ (.tmp 7) = .bool true := And.left hI
        clear hI; have HB := Lib.hid hB; have HS := Lib.hid hS; clear hB hS
        exact Upd.of (ex_move rfl) ⟨Below.refl _ _, h7⟩
      · refine OpOk.grow rfl (GuardYes.none rfl) ?_
        intro ρ S w1 hc hB hS hI
        have h85 : ρ (.tmp 85) = .bool true := And.left hI
        have h86 : ρ (.tmp 86) = .bool true := And.left (And.right hI)
        have hc1 := hc.const; have hc2 := hc.func
        clear hI; have HB := Lib.hid hB; have HS := Lib.hid hS; clear hB hS
        exact Upd.of (ex_pick rfl h85) ⟨Below.refl _ _, h86⟩
      · refine OpOk.grow rfl (GuardYes.none rfl) ?_
        intro ρ S w1 hc hB hS hI
        have h87 : ρ (.tmp 87) = .bool true := And.left hI
        clear hI; have HB := Lib.hid hB; have HS := Lib.hid hS; clear hB hS
        exact Upd.of (ex_assign rfl) ⟨Below.refl _ _, h87⟩
    · intro env2 Sr2 wr2 hB2 hSr2 hF2
      have f0 : env2 0 = .pointer (some ⟨b11, 1, none⟩) := hF2 0 (by decide) rfl
      have f1 : env2 1 = .int .i64 0 := hF2 1 (by decide) rfl
      have f2 : env2 2 = .bool true := hF2 2 (by decide) rfl
      have f3 : env2 3 = .bool true := hF2 3 (by decide) rfl
      have f4 : env2 4 = .pointer (some ⟨b12, 1, none⟩) := hF2 4 (by decide) rfl
      have f5 : env2 5 = .int .i64 0 := hF2 5 (by decide) rfl
      have f6 : env2 6 = .bool true := hF2 6 (by decide) rfl
      have f7 : env2 7 = .bool true := hF2 7 (by decide) rfl
      have f8 : env2 8 = .bool true := hF2 8 (by decide) rfl
      have f9 : env2 9 = .pointer (some ⟨b11, 0, none⟩) := hF2 9 (by decide) rfl
      have f10 : env2 10 = .slice p11 (pathF d i).length c11 := hF2 10 (by decide) rfl
      have f11 : env2 11 = .pointer (some ⟨b12, 0, none⟩) := hF2 11 (by decide) rfl
      have f12 : env2 12 = .slice p12 (pathF d i).length c12 := hF2 12 (by decide) rfl
      have f13 : env2 13 = .bool true := hF2 13 (by decide) rfl
      have f14 : env2 14 = .bool true := hF2 14 (by decide) rfl
      have f15 : env2 15 = .bool true := hF2 15 (by decide) rfl
      have f16 : env2 16 = .slice (some ⟨bd, od, none⟩) n cr := hF2 16 (by decide) rfl
      have f17 : env2 17 = .int .u64 (rootF d) := hF2 17 (by decide) rfl
      have f18 : env2 18 = .slice (some ⟨g, 0, none⟩) n cap := hF2 18 (by decide) rfl
      have f19 : env2 19 = .int .u64 (rootF (d.set i y)) := hF2 19 (by decide) rfl
      have f20 : env2 20 = .bool (rootF d == rootF (d.set i y)) := hF2 20 (by decide) rfl
      have f21 : env2 21 = .int .u64 y := hF2 21 (by decide) rfl
      have f22 : env2 22 = .slice (some ⟨bd, od, none⟩) n cr := hF2 22 (by decide) rfl
      have f23 : env2 23 = .int .i64 (i : Int) := hF2 23 (by decide) rfl
      have f24 : env2 24 = .pointer (some ⟨bd, od + i, none⟩) := hF2 24 (by decide) rfl
      have f25 : env2 25 = .int .u64 x := hF2 25 (by decide) rfl
      have f26 : env2 26 = .bool (y == x) := hF2 26 (by decide) rfl
      have f27 : env2 27 = .bool true := hF2 27 (by decide) rfl
      have f28 : env2 28 = .bool true := hF2 28 (by decide) rfl
      have f29 : env2 29 = .bool true := hF2 29 (by decide) rfl
      have f30 : env2 30 = .slice (some ⟨g, 0, none⟩) n cap := hF2 30 (by decide) rfl
      have f31 : env2 31 = .int .u64 (rootF (d.set i y)) := hF2 31 (by decide) rfl
      have f32 : env2 32 = .slice (some ⟨bd, od, none⟩) n cr := hF2 32 (by decide) rfl
      have f33 : env2 33 = .int .i64 (n : Nat) := hF2 33 (by decide) rfl
      have f34 : env2 34 = .pointer (some ⟨b11, 0, none⟩) := hF2 34 (by decide) rfl
      have f35 : env2 35 = .slice p11 (pathF d i).length c11 := hF2 35 (by decide) rfl
      have f36 : env2 36 = .agg #[.int .i64 (n : Int), .slice p11 (pathF d i).length c11] := hF2 36 (by decide) rfl
      have f37 : env2 37 = .int .i64 (i : Int) := hF2 37 (by decide) rfl
      have f38 : env2 38 = .int .u64 y := hF2 38 (by decide) rfl
      have f39 : env2 39 = .agg #[.int .i64 (i : Int), .int .u64 y] := hF2 39 (by decide) rfl
      have f40 : env2 40 = .int .i64 0 := hF2 40 (by decide) rfl
      have f41 : env2 41 = .bool true := hF2 41 (by decide) rfl
      have f42 : env2 42 = .bool true := hF2 42 (by decide) rfl
      have f43 : env2 43 = .bool true := hF2 43 (by decide) rfl
      have f44 : env2 44 = .bool true := hF2 44 (by decide) rfl
      have f45 : env2 45 = .bool true := hF2 45 (by decide) rfl
      have f46 : env2 46 = .bool true := hF2 46 (by decide) rfl
      clear hF2
      simp only [List.take_succ_cons, List.take_nil, List.drop_nil, List.drop_succ_cons, putAll, Act.put, List.setIfInBounds_toArray, List.set_cons_succ, List.set_cons_zero, Nat.reduceAdd, f0, f1, f2, f3, f4, f5, f6, f7, f8, f9, f10, f11, f12, f13, f14, f15, f16, f17, f18, f19, f20, f21, f22, f23, f24, f25, f26, f27, f28, f29, f30, f31, f32, f33, f34, f35, f36, f37, f38, f39, f40, f41, f42, f43, f44, f45, f46]
      clear f0 f1 f2 f3 f4 f5 f6 f7 f8 f9 f10 f11 f12 f13 f14 f15 f16 f17 f18 f19 f20 f21 f22 f23 f24 f25 f26 f27 f28 f29 f30 f31 f32 f33 f34 f35 f36 f37 f38 f39 f40 f41 f42 f43 f44 f45 f46
      refine wpList_nil ?_
      have HW4 := Lib.hid (HW4.out.trans (hB2.mono HW4.out.size))
      go_wp2
      go_ret
      exact ⟨rfl, HW4.out⟩

end Go.Proofs.Ytjmfaebimgnblaa
