/-
  What the functions of package digest compute: roots, paths, climbing, checks.
-/
import Derived.Test.YtjmfaebimgnblaaDigA
import Derived.Test.YtjmfaebimgnblaaApp
namespace Go.Proofs.Ytjmfaebimgnblaa
open Go.RowKit

theorem tag_calls (key : Int) (v : Value) (l : List Int) (S : Nat → Prop) (w : World) (hl : IsInts .i64 S w v l) :
    Calls Try.prog 43 #[.int .u64 key, v] w fun e w' => e = .returned (.int .u64 (tagF key l)) ∧ Below w.heap.size w w' := by
  have HL := Lib.hid hl
  obtain ⟨p, c, rfl, _⟩ := hl
  go_enter Try.func43, Try.ntmps43
  go_wp2_with fail
  refine (words_calls _ l S _ (HL.out.later ((Below.refl _ w).alloc (Nat.le_refl _) _))).mono ?_
  rintro e w1 ⟨rfl, hb1⟩
  have hsz := hb1.size
  have hw1 : w1.heap[w.heap.size]? = some (.cells #[.int .u64 key] 97) := by rw [hb1.block _ (by simp)]; exact heap_alloc_new _ _
  have HW := Lib.hid hw1
  rw [World.size_alloc] at hsz
  clear hw1
  go_wp2_with fail
  refine (add_calls w.heap.size key _ [wordsF l] _ (by rw [Below.heap_alloc _ _ _ (by omega)]; exact HW.out) ?_).mono ?_
  · refine IsRow.built _ _ [wordsF l] rfl ?_ rfl rfl ?_ <;> simp [maxLen]
    omega
  rintro e w2 ⟨rfl, ht, hb⟩
  have hc := cell_of_one hb
  clear hb
  go_wp2_with fail
  go_ret
  refine ⟨rfl, ?_⟩
  have h1 : Below w.heap.size w w1 := ((Below.refl _ w).alloc (Nat.le_refl _) _).trans (hb1.mono (by simp))
  exact (h1.alloc (by omega) _).trans (ht.toBelow (by simp <;> omega) (Nat.le_refl _))

set_option maxHeartbeats 800000 in
theorem rootN_calls : ∀ (f : Nat) (v : Value) (l : List Int) (S : Nat → Prop) (w : World), l.length ≤ f → l.length ≤ 1099511627776 → IsInts .u64 S w v l →
    Calls Try.prog 19 #[v] w fun e w' => e = .returned (.int .u64 (rootF l)) ∧ Below w.heap.size w w' := by
  intro f
  induction f with
  | zero =>
    intro v l S w hf hmx hl
    have : l = [] := List.eq_nil_of_length_eq_zero (by omega)
    subst this
    obtain ⟨p, c, rfl, _⟩ := hl
    go_enter Try.func19, Try.ntmps19
    go_wp2_with (go_at_call 37; refine (words_calls _ [] (fun _ => True) _ (IsRow.nil _ _ _)).mono ?_; rintro e w' ⟨rfl, hb⟩)
    go_ret
    exact ⟨rfl, hb⟩
  | succ f ih =>
    intro v l S w hf hmx hl
    have HL := Lib.hid hl
    have IH := Lib.hid ih
    obtain ⟨p, c, rfl, hlc, hcm, hp, _⟩ := hl
    have hcm : c ≤ 9223372036854775807 := hcm
    clear hp ih
    by_cases h0 : l.length = 0
    · have : l = [] := List.eq_nil_of_length_eq_zero h0
      subst this
      clear HL
      go_enter Try.func19, Try.ntmps19
      go_wp2_with (go_at_call 37; refine (words_calls _ [] (fun _ => True) _ (IsRow.nil _ _ _)).mono ?_; rintro e w' ⟨rfl, hb⟩)
      go_ret
      exact ⟨rfl, hb⟩
    by_cases h1 : l.length = 1
    · obtain ⟨x, rfl⟩ : ∃ x, l = [x] := List.length_eq_one_iff.1 h1
      obtain ⟨b2, off, rfl, hne, hlt2, hcell⟩ := HL.out.cellAt (k := 0) (x := x) rfl
      have hcell : w.cell? ⟨b2, off, none⟩ = some (.int .u64 x) := hcell
      clear HL
      go_enter Try.func19, Try.ntmps19
      go_wp2_with fail
      go_ret
      exact ⟨rfl, Below.refl _ _⟩
    have e0 : ((l.length : Int) == 0) = false := beq_eq_false_iff_ne.2 (by omega)
    have e1 : ((l.length : Int) == 1) = false := beq_eq_false_iff_ne.2 (by omega)
    have hh := halfF_lt l.length (by omega)
    have hhp := halfF_pos l.length
    clear h0 h1
    go_enter Try.func19, Try.ntmps19
    go_wp2_with (go_at_call 51; refine (half_calls _ (by omega) (by omega) _).mono ?_; rintro e w' ⟨rfl, rfl⟩)
    refine wp_region_table 10 [RKnown (.slice p l.length c) [(0, none)],
      RKnown (.int .i64 (halfF l.length : Nat)) [(3, none)],
      RKnown (.slice p (halfF l.length) c) [(17, some 0), (18, some 1)],
      RKnown (.int .u64 (rootF (l.take (halfF l.length)))) [(19, some 2)],
      RKnown (.slice p l.length c) [(0, none)],
      RKnown (.int .i64 (halfF l.length : Nat)) [(3, none)],
      RFact (fun Sx vx wx => IsInts .u64 Sx wx vx (l.drop (halfF l.length))) (IsRow.stable _ _) [(21, some 4), (22, some 5)],
      RKnown (.int .u64 (rootF (l.drop (halfF l.length)))) [(23, some 6)],
      RKnown (.int .u64 (rootF l)) [(20, some 3), (24, some 7)],
      RKnown (.int .u64 (rootF l)) [(25, some 8)]] (by kernel_rfl) (by kernel_rfl) (by kernel_rfl) ?_ ?_
    · refine ⟨?_, ?_, ?_, ?_, ?_, ?_, ?_, ?_, ?_, ?_, trivial⟩
      · refine OpOk.grow rfl (GuardYes.none rfl) ?_
        intro ρ S w1 hc hB hS hI
        have h0 : ρ (.tmp 0) = .slice p l.length c := And.left hI
        clear hI; have HB := Lib.hid hB; have HS := Lib.hid hS; clear hB hS
        exact Upd.of (ex_move rfl) ⟨Below.refl _ _, h0⟩
      · refine OpOk.grow rfl (GuardYes.none rfl) ?_
        intro ρ S w1 hc hB hS hI
        have h3 : ρ (.tmp 3) = .int .i64 (halfF l.length : Nat) := And.left hI
        clear hI; have HB := Lib.hid hB; have HS := Lib.hid hS; clear hB hS
        exact Upd.of (ex_move rfl) ⟨Below.refl _ _, h3⟩
      · refine OpOk.grow rfl (GuardYes.none rfl) ?_
        intro ρ S w1 hc hB hS hI
        have h17 : ρ (.tmp 17) = .slice p l.length c := And.left hI
        have h18 : ρ (.tmp 18) = .int .i64 (halfF l.length : Nat) := And.left (And.right hI)
        clear hI; have HB := Lib.hid hB; have HS := Lib.hid hS; clear hB hS
        exact Upd.of (ex_slice_hi (sz := 1) rfl Try.underlying22 (by kernel_rfl) h17 h18 (by omega)) ⟨Below.refl _ _, rfl⟩
      · refine OpOk.grow rfl (GuardYes.none rfl) ?_
        intro ρ S w1 hc hB hS hI
        have h19 : ρ (.tmp 19) = .slice p (halfF l.length) c := And.left hI
        have hc1 := hc.const; have hc2 := hc.func
        clear hI; have HB := Lib.hid hB; have HS := Lib.hid hS; clear hB hS
        refine Upd.call (vs := #[.slice p (halfF l.length) c]) rfl hc (by kernel_rfl) (by simp only [List.map_toArray, List.map_cons, List.map_nil, h19]) ?_
        refine (IH.out _ _ _ _ (by simp <;> omega) (by simp <;> omega) ((HL.out.mono (fun _ h _ => h) HB.out).hi _ (by omega))).mono ?_
        rintro e w2 ⟨rfl, hb2⟩
        exact ⟨_, rfl, hb2, rfl⟩
      · refine OpOk.grow rfl (GuardYes.none rfl) ?_
        intro ρ S w1 hc hB hS hI
        have h0 : ρ (.tmp 0) = .slice p l.length c := And.left hI
        clear hI; have HB := Lib.hid hB; have HS := Lib.hid hS; clear hB hS
        exact Upd.of (ex_move rfl) ⟨Below.refl _ _, h0⟩
      · refine OpOk.grow rfl (GuardYes.none rfl) ?_
        intro ρ S w1 hc hB hS hI
        have h3 : ρ (.tmp 3) = .int .i64 (halfF l.length : Nat) := And.left hI
        clear hI; have HB := Lib.hid hB; have HS := Lib.hid hS; clear hB hS
        exact Upd.of (ex_move rfl) ⟨Below.refl _ _, h3⟩
      · refine OpOk.grow rfl (GuardYes.none rfl) ?_
        intro ρ S w1 hc hB hS hI
        have h21 : ρ (.tmp 21) = .slice p l.length c := And.left hI
        have h22 : ρ (.tmp 22) = .int .i64 (halfF l.length : Nat) := And.left (And.right hI)
        clear hI; have HB := Lib.hid hB; have HS := Lib.hid hS; clear hB hS
        exact Upd.of (ex_slice_lo (sz := 1) rfl Try.underlying22 (by kernel_rfl) h21 h22 (by omega)) ⟨Below.refl _ _, ((HL.out.mono (fun b _ hb => .inl (HS.out b hb)) HB.out).lo _ (by omega))⟩
      · refine OpOk.grow rfl (GuardYes.none rfl) ?_
        intro ρ S w1 hc hB hS hI
        have h23 : IsInts .u64 S w1 (ρ (.tmp 23)) (l.drop (halfF l.length)) := And.left hI
        have hc1 := hc.const; have hc2 := hc.func
        clear hI; have HB := Lib.hid hB; have HS := Lib.hid hS; clear hB hS
        refine Upd.call (vs := #[ρ (.tmp 23)]) rfl hc (by kernel_rfl) (by simp only [List.map_toArray, List.map_cons, List.map_nil]) ?_
        refine (IH.out _ _ _ _ (by simp <;> omega) (by simp <;> omega) h23).mono ?_
        rintro e w2 ⟨rfl, hb2⟩
        exact ⟨_, rfl, hb2, rfl⟩
      · refine OpOk.grow rfl (GuardYes.none rfl) ?_
        intro ρ S w1 hc hB hS hI
        have h20 : ρ (.tmp 20) = .int .u64 (rootF (l.take (halfF l.length))) := And.left hI
        have h24 : ρ (.tmp 24) = .int .u64 (rootF (l.drop (halfF l.length))) := And.left (And.right hI)
        have hc1 := hc.const; have hc2 := hc.func
        clear hI; have HB := Lib.hid hB; have HS := Lib.hid hS; clear hB hS
        refine Upd.call (vs := #[.int .u64 (rootF (l.take (halfF l.length))), .int .u64 (rootF (l.drop (halfF l.length)))]) rfl hc (by kernel_rfl) (by simp only [List.map_toArray, List.map_cons, List.map_nil, h20, h24]) ?_
        refine (join_calls _ _ _).mono ?_
        rintro e w2 ⟨rfl, hb2⟩
        exact ⟨_, rfl, hb2, congrArg (Value.int .u64) (rootF_two l (by omega)).symm⟩
      · refine OpOk.grow rfl (GuardYes.none rfl) ?_
        intro ρ S w1 hc hB hS hI
        have h25 : ρ (.tmp 25) = .int .u64 (rootF l) := And.left hI
        clear hI; have HB := Lib.hid hB; have HS := Lib.hid hS; clear hB hS
        exact Upd.of (ex_assign rfl) ⟨Below.refl _ _, h25⟩
    · intro env1 Sr1 wr1 hB1 hSr1 hF1
      have f0 : env1 0 = .slice p l.length c := hF1 0 (by decide) rfl
      have f1 : env1 1 = .int .i64 (halfF l.length : Nat) := hF1 1 (by decide) rfl
      have f2 : env1 2 = .slice p (halfF l.length) c := hF1 2 (by decide) rfl
      have f3 : env1 3 = .int .u64 (rootF (l.take (halfF l.length))) := hF1 3 (by decide) rfl
      have f4 : env1 4 = .slice p l.length c := hF1 4 (by decide) rfl
      have f5 : env1 5 = .int .i64 (halfF l.length : Nat) := hF1 5 (by decide) rfl
      have f6 : IsInts .u64 Sr1 wr1 (env1 6) (l.drop (halfF l.length)) := hF1 6 (by decide) rfl
      have f7 : env1 7 = .int .u64 (rootF (l.drop (halfF l.length))) := hF1 7 (by decide) rfl
      have f8 : env1 8 = .int .u64 (rootF l) := hF1 8 (by decide) rfl
      have f9 : env1 9 = .int .u64 (rootF l) := hF1 9 (by decide) rfl
      clear hF1
      simp only [List.take_succ_cons, List.take_nil, List.drop_nil, List.drop_succ_cons, putAll, Act.put, List.setIfInBounds_toArray, List.set_cons_succ, List.set_cons_zero, Nat.reduceAdd, f0, f1, f2, f3, f4, f5, f7, f8, f9]
      clear f0 f1 f2 f3 f4 f5 f7 f8 f9
      generalize env1 6 = e23 at *
      go_wp2
      go_ret
      exact ⟨rfl, hB1⟩

theorem root_calls (v : Value) (l : List Int) (S : Nat → Prop) (w : World) (h : l.length ≤ 1099511627776) (hl : IsInts .u64 S w v l) :
    Calls Try.prog 19 #[v] w fun e w' => e = .returned (.int .u64 (rootF l)) ∧ Below w.heap.size w w' := rootN_calls l.length v l S w (Nat.le_refl _) h hl

set_option maxHeartbeats 1600000 in
theorem pathN_calls : ∀ (f : Nat) (v : Value) (l : List Int) (i : Nat) (S : Nat → Prop) (w : World), l.length ≤ f → 1 ≤ l.length → l.length ≤ 1099511627776 → i < l.length → IsInts .u64 S w v l →
    Calls Try.prog 62 #[v, .int .i64 (i : Int)] w fun e w' => ∃ r, e = .returned r ∧ Own (Value.int .u64) w.heap.size 33 w' r (pathF l i) ∧ Below w.heap.size w w' := by
  intro f
  induction f with
  | zero => intro v l i S w hf h1; omega
  | succ f ih =>
    intro v l i S w hf hmin hmx hi hl
    have HL := Lib.hid hl
    have IH := Lib.hid ih
    obtain ⟨p, c, rfl, hlc, hcm, hp, _⟩ := hl
    have hcm : c ≤ 9223372036854775807 := hcm
    clear hp ih
    by_cases h1 : l.length = 1
    · have e1 : ((l.length : Int) == 1) = true := beq_iff_eq.2 (by omega)
      clear HL
      go_enter Try.func62, Try.ntmps62
      go_wp2_with fail
      go_ret
      exact ⟨_, rfl, by rw [pathF_small l i (by omega)]; exact Own.nil _ _ _ _, Below.refl _ _⟩
    have e1 : ((l.length : Int) == 1) = false := beq_eq_false_iff_ne.2 (by omega)
    have hh := halfF_lt l.length (by omega)
    have hhp := halfF_pos l.length
    have hpl := pathF_len (l.take (halfF l.length)) i
    have hpd := pathF_len (l.drop (halfF l.length)) (i - halfF l.length)
    rw [List.length_take, Nat.min_eq_left (by omega)] at hpl
    rw [List.length_drop] at hpd
    by_cases hih : i < halfF l.length
    · go_enter Try.func62, Try.ntmps62
      go_wp2_with (go_at_call 51; refine (half_calls _ (by omega) (by omega) _).mono ?_; rintro e w' ⟨rfl, rfl⟩)
      refine wp_region_table 10 [RKnown (.slice p l.length c) [(0, none)],
        RKnown (.int .i64 (halfF l.length : Nat)) [(5, none)],
        RKnown (.slice p (halfF l.length) c) [(15, some 0), (16, some 1)],
        RKnown (.int .i64 (i : Int)) [(1, none)],
        RFact (fun Sx vx wx => OwnIn (Value.int .u64) w.heap.size 33 (pathF (l.take (halfF l.length)) i) Sx vx wx) (OwnIn.stable (Value.int .u64) w.heap.size 33 (pathF (l.take (halfF l.length)) i)) [(17, some 2), (18, some 3)],
        RKnown (.slice p l.length c) [(0, none)],
        RKnown (.int .i64 (halfF l.length : Nat)) [(5, none)],
        RFact (fun Sx vx wx => IsInts .u64 Sx wx vx (l.drop (halfF l.length))) (IsRow.stable _ _) [(20, some 5), (21, some 6)],
        RKnown (.int .u64 (rootF (l.drop (halfF l.length)))) [(22, some 7)],
        RFact (fun Sx vx wx => IsInts .u64 Sx wx vx [(rootF (l.drop (halfF l.length)))]) (IsRow.stable _ _) [(23, some 8)]] (by kernel_rfl) (by kernel_rfl) (by kernel_rfl) ?_ ?_
      · refine ⟨?_, ?_, ?_, ?_, ?_, ?_, ?_, ?_, ?_, ?_, trivial⟩
        · refine OpOk.grow rfl (GuardYes.none rfl) ?_
          intro ρ S w1 hc hB hS hI
          have h0 : ρ (.tmp 0) = .slice p l.length c := And.left hI
          clear hI; have HB := Lib.hid hB; have HS := Lib.hid hS; clear hB hS
          exact Upd.of (ex_move rfl) ⟨Below.refl _ _, h0⟩
        · refine OpOk.grow rfl (GuardYes.none rfl) ?_
          intro ρ S w1 hc hB hS hI
          have h5 : ρ (.tmp 5) = .int .i64 (halfF l.length : Nat) := And.left hI
          clear hI; have HB := Lib.hid hB; have HS := Lib.hid hS; clear hB hS
          exact Upd.of (ex_move rfl) ⟨Below.refl _ _, h5⟩
        · refine OpOk.grow rfl (GuardYes.none rfl) ?_
          intro ρ S w1 hc hB hS hI
          have h15 : ρ (.tmp 15) = .slice p l.length c := And.left hI
          have h16 : ρ (.tmp 16) = .int .i64 (halfF l.length : Nat) := And.left (And.right hI)
          clear hI; have HB := Lib.hid hB; have HS := Lib.hid hS; clear hB hS
          exact Upd.of (ex_slice_hi (sz := 1) rfl Try.underlying22 (by kernel_rfl) h15 h16 (by omega)) ⟨Below.refl _ _, rfl⟩
        · refine OpOk.grow rfl (GuardYes.none rfl) ?_
          intro ρ S w1 hc hB hS hI
          have h1 : ρ (.tmp 1) = .int .i64 (i : Int) := And.left hI
          clear hI; have HB := Lib.hid hB; have HS := Lib.hid hS; clear hB hS
          exact Upd.of (ex_move rfl) ⟨Below.refl _ _, h1⟩
        · refine OpOk.grow rfl (GuardYes.none rfl) ?_
          intro ρ S w1 hc hB hS hI
          have h17 : ρ (.tmp 17) = .slice p (halfF l.length) c := And.left hI
          have h18 : ρ (.tmp 18) = .int .i64 (i : Int) := And.left (And.right hI)
          have hc1 := hc.const; have hc2 := hc.func
          clear hI; have HB := Lib.hid hB; have HS := Lib.hid hS; clear hB hS
          refine Upd.call (vs := #[.slice p (halfF l.length) c, .int .i64 (i : Int)]) rfl hc (by kernel_rfl) (by simp only [List.map_toArray, List.map_cons, List.map_nil, h17, h18]) ?_
          refine (IH.out _ _ _ _ _ (by simp <;> omega) (by simp <;> omega) (by simp <;> omega) (by simp <;> omega) ((HL.out.mono (fun _ h _ => h) HB.out).hi _ (by omega))).mono ?_
          rintro e w2 ⟨r, rfl, hq, hb2⟩
          exact ⟨_, rfl, hb2, ⟨hq.mono (HB.out).size, fun k hk => .inr (hq.lt k hk).1⟩⟩
        · refine OpOk.grow rfl (GuardYes.none rfl) ?_
          intro ρ S w1 hc hB hS hI
          have h0 : ρ (.tmp 0) = .slice p l.length c := And.left hI
          clear hI; have HB := Lib.hid hB; have HS := Lib.hid hS; clear hB hS
          exact Upd.of (ex_move rfl) ⟨Below.refl _ _, h0⟩
        · refine OpOk.grow rfl (GuardYes.none rfl) ?_
          intro ρ S w1 hc hB hS hI
          have h5 : ρ (.tmp 5) = .int .i64 (halfF l.length : Nat) := And.left hI
          clear hI; have HB := Lib.hid hB; have HS := Lib.hid hS; clear hB hS
          exact Upd.of (ex_move rfl) ⟨Below.refl _ _, h5⟩
        · refine OpOk.grow rfl (GuardYes.none rfl) ?_
          intro ρ S w1 hc hB hS hI
          have h20 : ρ (.tmp 20) = .slice p l.length c := And.left hI
          have h21 : ρ (.tmp 21) = .int .i64 (halfF l.length : Nat) := And.left (And.right hI)
          clear hI; have HB := Lib.hid hB; have HS := Lib.hid hS; clear hB hS
          exact Upd.of (ex_slice_lo (sz := 1) rfl Try.underlying22 (by kernel_rfl) h20 h21 (by omega)) ⟨Below.refl _ _, ((HL.out.mono (fun b _ hb => .inl (HS.out b hb)) HB.out).lo _ (by omega))⟩
        · refine OpOk.grow rfl (GuardYes.none rfl) ?_
          intro ρ S w1 hc hB hS hI
          have h22 : IsInts .u64 S w1 (ρ (.tmp 22)) (l.drop (halfF l.length)) := And.left hI
          have hc1 := hc.const; have hc2 := hc.func
          clear hI; have HB := Lib.hid hB; have HS := Lib.hid hS; clear hB hS
          refine Upd.call (vs := #[ρ (.tmp 22)]) rfl hc (by kernel_rfl) (by simp only [List.map_toArray, List.map_cons, List.map_nil]) ?_
          refine (root_calls _ _ _ _ (by simp <;> omega) h22).mono ?_
          rintro e w2 ⟨rfl, hb2⟩
          exact ⟨_, rfl, hb2, rfl⟩
        · refine OpOk.grow rfl (GuardYes.none rfl) ?_
          intro ρ S w1 hc hB hS hI
          have h23 : ρ (.tmp 23) = .int .u64 (rootF (l.drop (halfF l.length))) := And.left hI
          clear hI; have HB := Lib.hid hB; have HS := Lib.hid hS; clear hB hS
          refine Upd.hide fun R1 hR1 => ?_
          go_simp
          exact Upd.ok (hR1 _ _ ⟨(Below.refl _ _).alloc (Nat.le_refl _) _, IsRow.built _ _ [(rootF (l.drop (halfF l.length)))] rfl (.inr (Nat.le_refl _)) rfl rfl (by simp [maxLen])⟩)
      · intro env1 Sr1 wr1 hB1 hSr1 hF1
        have f0 : env1 0 = .slice p l.length c := hF1 0 (by decide) rfl
        have f1 : env1 1 = .int .i64 (halfF l.length : Nat) := hF1 1 (by decide) rfl
        have f2 : env1 2 = .slice p (halfF l.length) c := hF1 2 (by decide) rfl
        have f3 : env1 3 = .int .i64 (i : Int) := hF1 3 (by decide) rfl
        have f4 : OwnIn (Value.int .u64) w.heap.size 33 (pathF (l.take (halfF l.length)) i) Sr1 (env1 4) wr1 := hF1 4 (by decide) rfl
        have f5 : env1 5 = .slice p l.length c := hF1 5 (by decide) rfl
        have f6 : env1 6 = .int .i64 (halfF l.length : Nat) := hF1 6 (by decide) rfl
        have f7 : IsInts .u64 Sr1 wr1 (env1 7) (l.drop (halfF l.length)) := hF1 7 (by decide) rfl
        have f8 : env1 8 = .int .u64 (rootF (l.drop (halfF l.length))) := hF1 8 (by decide) rfl
        have f9 : IsInts .u64 Sr1 wr1 (env1 9) [(rootF (l.drop (halfF l.length)))] := hF1 9 (by decide) rfl
        clear hF1
        simp only [List.take_succ_cons, List.take_zero, List.drop_zero, List.drop_succ_cons, putAll, Act.put, List.setIfInBounds_toArray, List.set_cons_succ, List.set_cons_zero, Nat.reduceAdd, f0, f1, f2, f3, f5, f6, f8]
        clear f0 f1 f2 f3 f5 f6 f8
        generalize env1 4 = e19 at *
        generalize env1 7 = e22 at *
        generalize env1 9 = e24 at *
        refine wpList_append_row rfl (.tmp 19) (.tmp 24) 22 rfl w.heap.size 33 (.int .u64 0) 8 Try.underlying22 (by kernel_rfl) rfl f4.1 f9 rfl rfl (fun _ => rfl) ?_ ?_ ?_ ?_
        · simp only [List.length_cons, List.length_nil, maxLen]; omega
        · simp only [List.length_cons, List.length_nil]; omega
        · exact hB1.size
        intro v' w2 ho hb2 _
        go_wp2
        go_ret
        exact ⟨_, rfl, by rw [pathF_lo l i (by omega) hih]; exact ho, hB1.trans hb2⟩
    · go_enter Try.func62, Try.ntmps62
      go_wp2_with (go_at_call 51; refine (half_calls _ (by omega) (by omega) _).mono ?_; rintro e w' ⟨rfl, rfl⟩)
      refine wp_region_table 12 [RKnown (.slice p l.length c) [(0, none)],
        RKnown (.int .i64 (halfF l.length : Nat)) [(5, none)],
        RFact (fun Sx vx wx => IsInts .u64 Sx wx vx (l.drop (halfF l.length))) (IsRow.stable _ _) [(26, some 0), (27, some 1)],
        RKnown (.int .i64 (i : Int)) [(1, none)],
        RKnown (.int .i64 (halfF l.length : Nat)) [(5, none)],
        RKnown (.int .i64 ((i - halfF l.length : Nat) : Int)) [(29, some 3), (30, some 4)],
        RFact (fun Sx vx wx => OwnIn (Value.int .u64) w.heap.size 33 (pathF (l.drop (halfF l.length)) (i - halfF l.length)) Sx vx wx) (OwnIn.stable (Value.int .u64) w.heap.size 33 (pathF (l.drop (halfF l.length)) (i - halfF l.length))) [(28, some 2), (31, some 5)],
        RKnown (.slice p l.length c) [(0, none)],
        RKnown (.int .i64 (halfF l.length : Nat)) [(5, none)],
        RKnown (.slice p (halfF l.length) c) [(33, some 7), (34, some 8)],
        RKnown (.int .u64 (rootF (l.take (halfF l.length)))) [(35, some 9)],
        RFact (fun Sx vx wx => IsInts .u64 Sx wx vx [(rootF (l.take (halfF l.length)))]) (IsRow.stable _ _) [(36, some 10)]] (by kernel_rfl) (by kernel_rfl) (by kernel_rfl) ?_ ?_
      · refine ⟨?_, ?_, ?_, ?_, ?_, ?_, ?_, ?_, ?_, ?_, ?_, ?_, trivial⟩
        · refine OpOk.grow rfl (GuardYes.none rfl) ?_
          intro ρ S w1 hc hB hS hI
          have h0 : ρ (.tmp 0) = .slice p l.length c := And.left hI
          clear hI; have HB := Lib.hid hB; have HS := Lib.hid hS; clear hB hS
          exact Upd.of (ex_move rfl) ⟨Below.refl _ _, h0⟩
        · refine OpOk.grow rfl (GuardYes.none rfl) ?_
          intro ρ S w1 hc hB hS hI
          have h5 : ρ (.tmp 5) = .int .i64 (halfF l.length : Nat) := And.left hI
          clear hI; have HB := Lib.hid hB; have HS := Lib.hid hS; clear hB hS
          exact Upd.of (ex_move rfl) ⟨Below.refl _ _, h5⟩
        · refine OpOk.grow rfl (GuardYes.none rfl) ?_
          intro ρ S w1 hc hB hS hI
          have h26 : ρ (.tmp 26) = .slice p l.length c := And.left hI
          have h27 : ρ (.tmp 27) = .int .i64 (halfF l.length : Nat) := And.left (And.right hI)
          clear hI; have HB := Lib.hid hB; have HS := Lib.hid hS; clear hB hS
          exact Upd.of (ex_slice_lo (sz := 1) rfl Try.underlying22 (by kernel_rfl) h26 h27 (by omega)) ⟨Below.refl _ _, ((HL.out.mono (fun b _ hb => .inl (HS.out b hb)) HB.out).lo _ (by omega))⟩
        · refine OpOk.grow rfl (GuardYes.none rfl) ?_
          intro ρ S w1 hc hB hS hI
          have h1 : ρ (.tmp 1) = .int .i64 (i : Int) := And.left hI
          clear hI; have HB := Lib.hid hB; have HS := Lib.hid hS; clear hB hS
          exact Upd.of (ex_move rfl) ⟨Below.refl _ _, h1⟩
        · refine OpOk.grow rfl (GuardYes.none rfl) ?_
          intro ρ S w1 hc hB hS hI
          have h5 : ρ (.tmp 5) = .int .i64 (halfF l.length : Nat) := And.left hI
          clear hI; have HB := Lib.hid hB; have HS := Lib.hid hS; clear hB hS
          exact Upd.of (ex_move rfl) ⟨Below.refl _ _, h5⟩
        · refine OpOk.grow rfl (GuardYes.none rfl) ?_
          intro ρ S w1 hc hB hS hI
          have h29 : ρ (.tmp 29) = .int .i64 (i : Int) := And.left hI
          have h30 : ρ (.tmp 30) = .int .i64 (halfF l.length : Nat) := And.left (And.right hI)
          clear hI; have HB := Lib.hid hB; have HS := Lib.hid hS; clear hB hS
          have hw : IntKind.i64.wrap ((i : Int) - (halfF l.length : Nat)) = ((i - halfF l.length : Nat) : Int) := by rw [IntWalk.i64_in _ (by omega)]; omega
          refine Upd.hide fun R1 hR1 => ?_
          go_simp
          exact Upd.ok (hR1 _ _ ⟨Below.refl _ _, rfl⟩)
        · refine OpOk.grow rfl (GuardYes.none rfl) ?_
          intro ρ S w1 hc hB hS hI
          have h28 : IsInts .u64 S w1 (ρ (.tmp 28)) (l.drop (halfF l.length)) := And.left hI
          have h31 : ρ (.tmp 31) = .int .i64 ((i - halfF l.length : Nat) : Int) := And.left (And.right hI)
          have hc1 := hc.const; have hc2 := hc.func
          clear hI; have HB := Lib.hid hB; have HS := Lib.hid hS; clear hB hS
          refine Upd.call (vs := #[ρ (.tmp 28), .int .i64 ((i - halfF l.length : Nat) : Int)]) rfl hc (by kernel_rfl) (by simp only [List.map_toArray, List.map_cons, List.map_nil, h31]) ?_
          refine (IH.out _ _ _ _ _ (by simp <;> omega) (by simp <;> omega) (by simp <;> omega) (by simp <;> omega) h28).mono ?_
          rintro e w2 ⟨r, rfl, hq, hb2⟩
          exact ⟨_, rfl, hb2, ⟨hq.mono (HB.out).size, fun k hk => .inr (hq.lt k hk).1⟩⟩
        · refine OpOk.grow rfl (GuardYes.none rfl) ?_
          intro ρ S w1 hc hB hS hI
          have h0 : ρ (.tmp 0) = .slice p l.length c := And.left hI
          clear hI; have HB := Lib.hid hB; have HS := Lib.hid hS; clear hB hS
          exact Upd.of (ex_move rfl) ⟨Below.refl _ _, h0⟩
        · refine OpOk.grow rfl (GuardYes.none rfl) ?_
          intro ρ S w1 hc hB hS hI
          have h5 : ρ (.tmp 5) = .int .i64 (halfF l.length : Nat) := And.left hI
          clear hI; have HB := Lib.hid hB; have HS := Lib.hid hS; clear hB hS
          exact Upd.of (ex_move rfl) ⟨Below.refl _ _, h5⟩
        · refine OpOk.grow rfl (GuardYes.none rfl) ?_
          intro ρ S w1 hc hB hS hI
          have h33 : ρ (.tmp 33) = .slice p l.length c := And.left hI
          have h34 : ρ (.tmp 34) = .int .i64 (halfF l.length : Nat) := And.left (And.right hI)
          clear hI; have HB := Lib.hid hB; have HS := Lib.hid hS; clear hB hS
          exact Upd.of (ex_slice_hi (sz := 1) rfl Try.underlying22 (by kernel_rfl) h33 h34 (by omega)) ⟨Below.refl _ _, rfl⟩
        · refine OpOk.grow rfl (GuardYes.none rfl) ?_
          intro ρ S w1 hc hB hS hI
          have h35 : ρ (.tmp 35) = .slice p (halfF l.length) c := And.left hI
          have hc1 := hc.const; have hc2 := hc.func
          clear hI; have HB := Lib.hid hB; have HS := Lib.hid hS; clear hB hS
          refine Upd.call (vs := #[.slice p (halfF l.length) c]) rfl hc (by kernel_rfl) (by simp only [List.map_toArray, List.map_cons, List.map_nil, h35]) ?_
          refine (root_calls _ _ _ _ (by simp <;> omega) ((HL.out.mono (fun _ h _ => h) HB.out).hi _ (by omega))).mono ?_
          rintro e w2 ⟨rfl, hb2⟩
          exact ⟨_, rfl, hb2, rfl⟩
        · refine OpOk.grow rfl (GuardYes.none rfl) ?_
          intro ρ S w1 hc hB hS hI
          have h36 : ρ (.tmp 36) = .int .u64 (rootF (l.take (halfF l.length))) := And.left hI
          clear hI; have HB := Lib.hid hB; have HS := Lib.hid hS; clear hB hS
          refine Upd.hide fun R1 hR1 => ?_
          go_simp
          exact Upd.ok (hR1 _ _ ⟨(Below.refl _ _).alloc (Nat.le_refl _) _, IsRow.built _ _ [(rootF (l.take (halfF l.length)))] rfl (.inr (Nat.le_refl _)) rfl rfl (by simp [maxLen])⟩)
      · intro env1 Sr1 wr1 hB1 hSr1 hF1
        have f0 : env1 0 = .slice p l.length c := hF1 0 (by decide) rfl
        have f1 : env1 1 = .int .i64 (halfF l.length : Nat) := hF1 1 (by decide) rfl
        have f2 : IsInts .u64 Sr1 wr1 (env1 2) (l.drop (halfF l.length)) := hF1 2 (by decide) rfl
        have f3 : env1 3 = .int .i64 (i : Int) := hF1 3 (by decide) rfl
        have f4 : env1 4 = .int .i64 (halfF l.length : Nat) := hF1 4 (by decide) rfl
        have f5 : env1 5 = .int .i64 ((i - halfF l.length : Nat) : Int) := hF1 5 (by decide) rfl
        have f6 : OwnIn (Value.int .u64) w.heap.size 33 (pathF (l.drop (halfF l.length)) (i - halfF l.length)) Sr1 (env1 6) wr1 := hF1 6 (by decide) rfl
        have f7 : env1 7 = .slice p l.length c := hF1 7 (by decide) rfl
        have f8 : env1 8 = .int .i64 (halfF l.length : Nat) := hF1 8 (by decide) rfl
        have f9 : env1 9 = .slice p (halfF l.length) c := hF1 9 (by decide) rfl
        have f10 : env1 10 = .int .u64 (rootF (l.take (halfF l.length))) := hF1 10 (by decide) rfl
        have f11 : IsInts .u64 Sr1 wr1 (env1 11) [(rootF (l.take (halfF l.length)))] := hF1 11 (by decide) rfl
        clear hF1
        simp only [List.take_succ_cons, List.take_zero, List.drop_zero, List.drop_succ_cons, putAll, Act.put, List.setIfInBounds_toArray, List.set_cons_succ, List.set_cons_zero, Nat.reduceAdd, f0, f1, f3, f4, f5, f7, f8, f9, f10]
        clear f0 f1 f3 f4 f5 f7 f8 f9 f10
        generalize env1 2 = e28 at *
        generalize env1 6 = e32 at *
        generalize env1 11 = e37 at *
        refine wpList_append_row rfl (.tmp 32) (.tmp 37) 22 rfl w.heap.size 33 (.int .u64 0) 8 Try.underlying22 (by kernel_rfl) rfl f6.1 f11 rfl rfl (fun _ => rfl) ?_ ?_ ?_ ?_
        · simp only [List.length_cons, List.length_nil, maxLen]; omega
        · simp only [List.length_cons, List.length_nil]; omega
        · exact hB1.size
        intro v' w2 ho hb2 _
        go_wp2
        go_ret
        exact ⟨_, rfl, by rw [pathF_hi l i (by omega) (by omega)]; exact ho, hB1.trans hb2⟩
end Go.Proofs.Ytjmfaebimgnblaa
