/-
  append, calls; and every operation in one word: its run does what is told of it. Generic: over any program.
-/
import Derived.Test.YtjmfaebimgnblaaAiJ
namespace Go.Proofs.Ytjmfaebimgnblaa
open Go.RowKit
set_option linter.unusedVariables false
set_option linter.unusedSimpArgs false

section
variable {P : Program} {S : Nat → Prop} {μ : Nat → Value} {w : World}

/-- append onto a row of the call's own: where the result lies. -/
theorem run_append_here (t ty e : TypeId) (i : TypeInfo) (z : Value) (ht : P.underlying t = some (.slice e)) (hi : P.info? e = some i) (hz : i.zero = some z) (hzs : z.cells.size = i.size)
    {v : Value} {n : Nat} {xs : List Value} (hown : w.ownsRow 0 e i.size v n xs) {pa : Option Addr} {m c : Nat} {news : List Value} (hpa : pa = none → c = 0 ∧ m = 0)
    (hl : news.length = m * i.size) (hnews : ∀ ad, pa = some ad → ∀ (j : Nat) (u : Value), news[j]? = some u → w.cell? (ad.add j) = some u) (h1 : ∀ u ∈ news, u.oneCell' = true)
    (h63 : n + m ≤ maxLen) (hbytes : (n + m) * i.bytes ≤ 140737488355328) :
    ∃ v' w', (Builtin.append_ #[t, t] ty #[v, .slice pa m c]).run P w = .ok v' w' ∧ w'.ownsRow 0 e i.size v' (n + m) (xs ++ news) ∧ w.grownBy w' v.ownBlock ∧ (v'.ownBlock = v.ownBlock ∨ v'.ownBlock = some w.heap.size) := by
  cases pa with
  | none =>
    obtain ⟨rfl, rfl⟩ := hpa rfl
    have hn : news = [] := List.eq_nil_of_length_eq_zero (by simpa using hl)
    subst hn
    exact ⟨v, w, run_append_owned_none (P := P) w 0 t ty e i i.size ht hi v n xs hown, by simpa using hown, ⟨rfl, rfl, rfl, Nat.le_refl _, fun _ _ _ => rfl⟩, .inl rfl⟩
  | some ad =>
    have hnw := hnews ad rfl
    have hsmall : n + m ≤ 9223372036854775807 := by simp only [maxLen] at h63; omega
    have hlen : (xs ++ news).length = (n + m) * i.size := by rw [List.length_append, hown.1, hl, Nat.add_mul]
    have grown : ∀ (old : Nat) (row : Option Nat),
        (w.drew.alloc (.cells (xs.toArray ++ news.toArray ++ Builtin.zeroCells z.cells (grownCap w (n + m) old e - (n + m))) e)).ownsRow 0 e i.size
          (.slice (some ⟨w.heap.size, 0, none⟩) (n + m) (grownCap w (n + m) old e)) (n + m) (xs ++ news) ∧
        w.grownBy (w.drew.alloc (.cells (xs.toArray ++ news.toArray ++ Builtin.zeroCells z.cells (grownCap w (n + m) old e - (n + m))) e)) row := by
      intro old row
      have hge := grownCap_ge w (n + m) old e
      have hcm : grownCap w (n + m) old e ≤ maxLen := grownCap_le_maxLen w (n + m) old e h63
      refine ⟨⟨hlen, .inr ⟨w.heap.size, _, _, rfl, Nat.zero_le _, heap_alloc_new w.drew _, hge, hcm, ?_, ?_⟩⟩, ⟨rfl, rfl, rfl, by simp, fun k hk _ => Below.heap_alloc w.drew _ k hk⟩⟩
      · simp only [Array.size_append, List.size_toArray, size_zeroCells, hzs, hown.1, hl, ← Nat.add_mul]
        congr 1
        omega
      · simp only [Array.toList_append, List.append_assoc]
        rw [← List.append_assoc, ← hlen]
        exact List.take_left
    rcases hown.2 with ⟨rfl, rfl⟩ | ⟨g, cap, cur, rfl, hbg, hg, hnc, hcm, hcs, htake⟩
    · have hx : xs = [] := List.eq_nil_of_length_eq_zero (by simpa using hown.1)
      subst hx
      by_cases hm : m = 0
      · subst hm
        have hn : news = [] := List.eq_nil_of_length_eq_zero (by simpa using hl)
        subst hn
        refine ⟨.slice none 0 0, w, ?_, World.ownsRow_nil w 0 e i.size, ⟨rfl, rfl, rfl, Nat.le_refl _, fun _ _ _ => rfl⟩, .inl rfl⟩
        simp [Builtin.append_, run_underlying ht, sizeOf, typeInfo, hi, Builtin.lenOf, Builtin.firstCells, loadCells, loadCellsFrom]
      · have hr := run_append_nil (P := P) w t ty e i z ht hi hz ad m c news hl hnw (by omega) (by omega) (by have hb := hbytes; simp only [Nat.zero_add] at hb; omega)
        have hgr := grown 0 (Value.ownBlock (.slice none 0 0))
        simp only [Nat.zero_add, List.nil_append, Array.empty_append] at hgr ⊢
        exact ⟨_, _, hr, hgr.1, hgr.2, .inr rfl⟩
    · by_cases hroom : n + m ≤ cap
      · have hfit : n * i.size + news.length ≤ cur.size := by rw [hl, hcs, ← Nat.add_mul]; exact Nat.mul_le_mul_right _ hroom
        have hr := run_append_room (P := P) w t ty e i ht hi g n cap cur hg ad m c news hl hnw h1 hroom hfit
        refine ⟨_, _, hr, ⟨hlen, .inr ⟨g, cap, _, rfl, hbg, setRow_heap w g cur _ e _ hg, hroom, hcm, ?_, ?_⟩⟩, grownBy_setRow w g _, .inl rfl⟩
        · simp only [List.size_toArray, List.length_append, List.length_take, List.length_drop, Array.length_toList]
          omega
        · rw [htake, ← hlen]
          exact List.take_left
      · have holds : ∀ j u, xs[j]? = some u → w.cell? ((⟨g, 0, none⟩ : Addr).add j) = some u := hown.cells (g := g) rfl
        have hr := run_append_grow (P := P) w t ty e i z ht hi hz ⟨g, 0, none⟩ n cap xs hown.1 holds ad m c news hl hnw (by omega) (by omega) (growslice_fits (by omega) hbytes)
        have hgr := grown cap (Value.ownBlock (.slice (some ⟨g, 0, none⟩) n cap))
        exact ⟨_, _, hr, hgr.1, hgr.2, .inr rfl⟩

/-- The elements of a slice, read off memory. -/
theorem srcOf_cells {H : List Box} (hH : HeapRel S μ w H) {sz : Nat} (hs : 1 ≤ sz) {x : D} {new : List (List V)} {ux : Value} (hn : srcOf H sz x = some new) (hx : DRep S μ w x ux) :
    ∃ (pa : Option Addr) (c : Nat) (news : List Value), ux = .slice pa new.length c ∧ (pa = none → c = 0 ∧ new.length = 0) ∧ news.length = new.length * sz ∧
      (∀ ad, pa = some ad → ∀ (j : Nat) (u : Value), news[j]? = some u → w.cell? (ad.add j) = some u) ∧ (∀ u ∈ news, u.oneCell' = true) ∧
      (∀ (i : Nat) (x : List V), new[i]? = some x → x.length = sz) ∧ ∀ (i : Nat) (x : List V) (j : Nat) (y : V), new[i]? = some x → x[j]? = some y → ∃ z, news[i * sz + j]? = some z ∧ Rep S w y z := by
  -- from cells that read as told
  have key : ∀ (news : List Value), news.length = new.length * sz → (∀ (i : Nat) (x : List V), new[i]? = some x → x.length = sz) →
      (∀ (i : Nat) (x : List V) (j : Nat) (y : V), new[i]? = some x → x[j]? = some y → ∃ z, news[i * sz + j]? = some z ∧ Rep S w y z) → ∀ u ∈ news, u.oneCell' = true := by
    intro news hl h0 h2 u hu
    obtain ⟨k, hk, rfl⟩ := List.getElem_of_mem hu
    have hi : k / sz < new.length := by
      rw [Nat.div_lt_iff_lt_mul (by omega)]
      omega
    have hj : k % sz < new[k / sz].length := by
      rw [h0 _ _ (List.getElem?_eq_getElem hi)]
      exact Nat.mod_lt _ (by omega)
    obtain ⟨z, hz, hr⟩ := h2 _ _ _ _ (List.getElem?_eq_getElem hi) (List.getElem?_eq_getElem hj)
    rw [← dvd_split (by omega)] at hz
    rw [List.getElem?_eq_getElem hk] at hz
    cases hz
    exact hr.one
  unfold srcOf at hn
  split at hn
  · rename_i sz' α enc d l
    split at hn
    · rename_i hsz
      rw [Nat.beq_eq] at hsz
      subst hsz
      cases hn
      obtain ⟨p, c, rfl, h1, h2, h3, h4⟩ := row_inv (sl_inv hx)
      by_cases h0 : 0 < l.length
      · obtain ⟨b, off, us, rfl, q1, q2, q3, q4, q5⟩ := h4 h0
        have hz : ∀ (k : Nat), k < l.length * sz → ∃ (z : α) (y : V), l[k / sz]? = some z ∧ (enc z)[k % sz]? = some y := by
          intro k hk
          have hi : k / sz < l.length := by rw [Nat.div_lt_iff_lt_mul (by omega)]; exact hk
          have hzl := q3 _ _ (List.getElem?_eq_getElem hi)
          have hj : k % sz < (enc l[k / sz]).length := by rw [hzl]; exact Nat.mod_lt _ (by omega)
          exact ⟨_, _, List.getElem?_eq_getElem hi, List.getElem?_eq_getElem hj⟩
        have r0 : ∀ (i : Nat) (x : List V), (l.map enc)[i]? = some x → x.length = sz := fun i x hx => by obtain ⟨z, hz, rfl⟩ := map_inv hx; exact q3 i z hz
        have r2 : ∀ (i : Nat) (x : List V) (j : Nat) (y : V), (l.map enc)[i]? = some x → x[j]? = some y → ∃ z, ((List.range (l.length * sz)).map fun k => us (k / sz) (k % sz))[i * sz + j]? = some z ∧ Rep S w y z := by
          intro i x j y hx hy
          have hi : i < l.length := by have := (List.getElem?_eq_some_iff.1 hx).1; simpa using this
          have hxl := r0 i x hx
          have hj : j < sz := by rw [← hxl]; exact (List.getElem?_eq_some_iff.1 hy).1
          obtain ⟨z, hz, rfl⟩ := map_inv hx
          have hm : (i + 1) * sz ≤ l.length * sz := Nat.mul_le_mul_right _ hi
          rw [Nat.succ_mul] at hm
          refine ⟨us i j, ?_, q5 i z j y hz hy⟩
          rw [List.getElem?_map, List.getElem?_range (by omega)]
          simp only [Option.map_some, Option.some.injEq]
          rw [Nat.mul_add_mod_of_lt' hj, Nat.mul_comm i sz, Nat.mul_add_div (by omega), Nat.div_eq_of_lt hj, Nat.add_zero]
        refine ⟨some ⟨b, off, none⟩, c, (List.range (l.length * sz)).map fun k => us (k / sz) (k % sz), by simp, (fun h => by cases h), by simp, ?_, key _ (by simp) r0 r2, r0, r2⟩
        rintro ad hadd j u hu
        cases hadd
        obtain ⟨k, hk, rfl⟩ := map_inv hu
        obtain ⟨h5, h6⟩ := List.getElem?_eq_some_iff.1 hk
        simp at h5 h6
        subst h6
        obtain ⟨z, y, hz1, hz2⟩ := hz j h5
        rw [addr_add, ← q4 _ _ _ _ hz1 hz2, ← dvd_split (by omega)]
      · have hl : l = [] := List.eq_nil_of_length_eq_zero (by omega)
        subst hl
        exact ⟨p, c, [], rfl, fun h => ⟨h3 h, rfl⟩, by simp, fun ad _ j u hu => by simp at hu, fun u hu => by simp at hu, fun i x hx => by simp at hx, fun i x j y hx => by simp at hx⟩
    · cases hn
  · rename_i id
    split at hn
    · rename_i E sz' α enc d l hbox
      split at hn
      · rename_i hsz
        rw [Nat.beq_eq] at hsz
        subst hsz
        cases hn
        rw [own_inv hx]
        have hA := ArrL.of (hH.box id _ hbox)
        obtain ⟨p, c, hm, q1, q2, q3, q4⟩ := own_slice (hH.box id _ hbox)
        obtain ⟨r0, xs, r1, r2⟩ := hA
        refine ⟨p, c, xs, by rw [hm]; simp, fun hp => ⟨q3 hp, by rw [List.length_map]; have := q3 hp; omega⟩, r1.1, ?_, key xs r1.1 r0 r2, r0, r2⟩
        rintro ad rfl j u hu
        by_cases h0 : 0 < l.length
        · obtain ⟨g, hg⟩ := q4 h0
          cases hg
          rw [addr_add, Nat.zero_add]
          exact own_cells r1 (by rw [hm]; rfl) j u hu
        · have : xs.length = 0 := by rw [r1.1, List.length_map, show l.length = 0 from by omega]; simp
          have hxs : xs = [] := List.eq_nil_of_length_eq_zero this
          subst hxs
          simp at hu
      · cases hn
    · cases hn
  · cases hn
    cases hx
    exact ⟨none, 0, [], rfl, fun _ => ⟨rfl, rfl⟩, by simp, fun ad h => (by cases h), fun u hu => by simp at hu, fun i x hx => by simp at hx, fun i x j y hx => by simp at hx⟩
  · cases hn

/-- The appended array. -/
theorem ArrL.append {w' : World} {E sz : Nat} {L new : List (List V)} {u' : Value} {xs news : List Value} (h0 : ∀ (i : Nat) (x : List V), L[i]? = some x → x.length = sz) (hxl : xs.length = L.length * sz)
    (h2 : ∀ (i : Nat) (x : List V) (j : Nat) (y : V), L[i]? = some x → x[j]? = some y → ∃ z, xs[i * sz + j]? = some z ∧ Rep S w' y z)
    (n0 : ∀ (i : Nat) (x : List V), new[i]? = some x → x.length = sz)
    (n2 : ∀ (i : Nat) (x : List V) (j : Nat) (y : V), new[i]? = some x → x[j]? = some y → ∃ z, news[i * sz + j]? = some z ∧ Rep S w' y z)
    (ho : w'.ownsRow 0 E sz u' (L.length + new.length) (xs ++ news)) : ArrL S w' E sz (L ++ new) u' := by
  refine ⟨fun i x hx => ?_, xs ++ news, by rw [List.length_append]; exact ho, fun i x j y hx hy => ?_⟩
  · by_cases hi : i < L.length
    · rw [List.getElem?_append_left hi] at hx; exact h0 i x hx
    · rw [List.getElem?_append_right (by omega)] at hx; exact n0 _ x hx
  · by_cases hi : i < L.length
    · rw [List.getElem?_append_left hi] at hx
      obtain ⟨z, hz, hr⟩ := h2 i x j y hx hy
      exact ⟨z, by rw [List.getElem?_append_left (List.getElem?_eq_some_iff.1 hz).1]; exact hz, hr⟩
    · rw [List.getElem?_append_right (by omega)] at hx
      obtain ⟨z, hz, hr⟩ := n2 _ x j y hx hy
      refine ⟨z, ?_, hr⟩
      have hm : L.length * sz ≤ i * sz := Nat.mul_le_mul_right _ (by omega)
      rw [List.getElem?_append_right (by omega), hxl]
      rw [Nat.sub_mul] at hz
      rw [← hz]
      congr 1
      omega

/-- 'append' to a slice that is full: new memory. -/
theorem run_append_full (t ty e : TypeId) (i : TypeInfo) (z : Value) (ht : P.underlying t = some (.slice e)) (hi : P.info? e = some i) (hz : i.zero = some z) (hzs : z.cells.size = i.size)
    {p : Option Addr} {n : Nat} {xs : List Value} (hpn : p = none → n = 0) (hxl : xs.length = n * i.size) (holds : ∀ ad, p = some ad → ∀ (j : Nat) (u : Value), xs[j]? = some u → w.cell? (ad.add j) = some u) {pa : Option Addr} {m c : Nat} {news : List Value} (hpa : pa = none → c = 0 ∧ m = 0)
    (hl : news.length = m * i.size) (hnews : ∀ ad, pa = some ad → ∀ (j : Nat) (u : Value), news[j]? = some u → w.cell? (ad.add j) = some u) (hm0 : 0 < m)
    (h63 : n + m ≤ maxLen) (hbytes : (n + m) * i.bytes ≤ 140737488355328) :
    ∃ v' w', (Builtin.append_ #[t, t] ty #[.slice p n n, .slice pa m c]).run P w = .ok v' w' ∧ w'.ownsRow 0 e i.size v' (n + m) (xs ++ news) ∧ w.grownBy w' none ∧ v'.ownBlock = some w.heap.size := by
  cases pa with
  | none => have := (hpa rfl).2; omega
  | some ad =>
    have hnw := hnews ad rfl
    have hsmall : n + m ≤ 9223372036854775807 := by simp only [maxLen] at h63; omega
    have hlen : (xs ++ news).length = (n + m) * i.size := by rw [List.length_append, hxl, hl, Nat.add_mul]
    have grown : ∀ (old : Nat) (row : Option Nat),
        (w.drew.alloc (.cells (xs.toArray ++ news.toArray ++ Builtin.zeroCells z.cells (grownCap w (n + m) old e - (n + m))) e)).ownsRow 0 e i.size
          (.slice (some ⟨w.heap.size, 0, none⟩) (n + m) (grownCap w (n + m) old e)) (n + m) (xs ++ news) ∧
        w.grownBy (w.drew.alloc (.cells (xs.toArray ++ news.toArray ++ Builtin.zeroCells z.cells (grownCap w (n + m) old e - (n + m))) e)) row := by
      intro old row
      have hge := grownCap_ge w (n + m) old e
      have hcm : grownCap w (n + m) old e ≤ maxLen := grownCap_le_maxLen w (n + m) old e h63
      refine ⟨⟨hlen, .inr ⟨w.heap.size, _, _, rfl, Nat.zero_le _, heap_alloc_new w.drew _, hge, hcm, ?_, ?_⟩⟩, ⟨rfl, rfl, rfl, by simp, fun k hk _ => Below.heap_alloc w.drew _ k hk⟩⟩
      · simp only [Array.size_append, List.size_toArray, size_zeroCells, hzs, hxl, hl, ← Nat.add_mul]
        congr 1
        omega
      · simp only [Array.toList_append, List.append_assoc]
        rw [← List.append_assoc, ← hlen]
        exact List.take_left
    cases p with
    | none =>
      have hn := hpn rfl
      subst hn
      have hx : xs = [] := List.eq_nil_of_length_eq_zero (by simpa using hxl)
      subst hx
      have hr := run_append_nil (P := P) w t ty e i z ht hi hz ad m c news hl hnw (by omega) (by omega) (by have hb := hbytes; simp only [Nat.zero_add] at hb; omega)
      have hgr := grown 0 none
      simp only [Nat.zero_add, List.nil_append, Array.empty_append] at hgr ⊢
      exact ⟨_, _, hr, hgr.1, hgr.2, rfl⟩
    | some b =>
      have hr := run_append_grow (P := P) w t ty e i z ht hi hz b n n xs hxl (holds b rfl) ad m c news hl hnw (by omega) (by omega) (growslice_fits (by omega) hbytes)
      have hgr := grown n none
      exact ⟨_, _, hr, hgr.1, hgr.2, rfl⟩

end

section
variable {C : Ctx} {S : Nat → Prop} {μ : Nat → Value} {st st' : St} {a : Act} {w w' : World} {p : Prop}

theorem eAppend_sound (h : Rel C S μ st a w) {ov : Ov} {dst : Option Nat} {t ty : TypeId} {s x : D} {us ux : Value} (hs : DRep S μ w s us) (hx : DRep S μ w x ux) (hp : eAppend C.P C.nt st ov dst t s x = (st', p)) (hob : p) :
    ∃ u w' μ', (Builtin.append_ #[t, t] ty #[us, ux]).run C.P w = .ok u w' ∧ Rel C S μ' st' (a.put dst u) w' := by
  unfold eAppend at hp
  split at hp
  · rename_i E hu
    split at hp
    · rename_i z new hz hnew
      split at hp
      · rename_i hcond
        simp only [Bool.and_eq_true, Nat.beq_eq, Nat.ble_eq] at hcond
        obtain ⟨⟨⟨hk, hzl⟩, hs1⟩, hby1⟩ := hcond
        obtain ⟨i, v, hi, hv, hzz, hsz, hby⟩ := info_of hz
        have hvs : v.cells.size = i.size := by rw [hsz, ← hzl, hzz]; simp
        obtain ⟨pa, c, news, rfl, n1, n2, n3, n4, n5, n6⟩ := srcOf_cells h.heap hs1 hnew hx
        rw [← hsz] at n2 n6 n5
        have bytes : ∀ k, k ≤ 137438953472 → k * i.bytes ≤ 140737488355328 := by
          intro k hk
          have : k * i.bytes ≤ 137438953472 * 1024 := Nat.mul_le_mul hk (by omega)
          omega
        split at hp
        · rename_i id
          split at hp
          · rename_i E' sz' α enc d l td hbox
            split at hp
            · rename_i hcc
              simp only [Bool.and_eq_true, Nat.beq_eq, Nat.blt_eq] at hcc
              obtain ⟨⟨⟨rfl, rfl⟩, htd⟩, hfx⟩ := hcc
              generalize hq : arrOf E (szOf C.P E) (l.map enc ++ new) ov = q at hp
              obtain ⟨B, q⟩ := q
              simp only [Prod.mk.injEq] at hp
              obtain ⟨rfl, rfl⟩ := hp
              obtain ⟨hlen, hq'⟩ := hob
              have hus := own_inv hs
              subst hus
              obtain ⟨r0, xs, r1, r2⟩ := ArrL.of (h.heap.box id _ hbox)
              simp only [List.length_map] at r1
              have hmax : l.length + new.length ≤ maxLen := by simp only [maxLen]; omega
              obtain ⟨v', w', hrun, ho, hg, hblk⟩ := run_append_here (P := C.P) (w := w) t ty E i v hu hi hv hvs (by rw [hsz]; exact r1) n1 n2 n3 n4 hmax (bytes _ hlen)
              have hown : (μ id).ownBlock = blkOf (μ id) := by
                obtain ⟨p', c', hm, _⟩ := own_slice (h.heap.box id _ hbox)
                rw [hm]
                cases p' <;> rfl
              have hid : id < st.heap.length := (List.getElem?_eq_some_iff.1 hbox).1
              have hSw : ∀ b, S b → b < w.heap.size → w'.heap[b]? = w.heap[b]? := fun b hb hl => hg.block b hl (fun e => h.heap.notS id _ b hbox rfl (by rw [← hown]; exact e.symm) hb)
              have hA : ArrL S w' E (szOf C.P E) (l.map enc ++ new) v' := by
                rw [hsz] at ho n2 n5 n6
                refine ArrL.append r0 (by rw [r1.1]; simp) (fun k x j y hx hy => ?_) n5 (fun k x j y hx hy => ?_) (by simpa using ho)
                · obtain ⟨z, hz, hr⟩ := r2 k x j y hx hy
                  exact ⟨z, hz, hr.stable (fun _ h _ => h) hSw hg.size⟩
                · obtain ⟨z, hz, hr⟩ := n6 k x j y hx hy
                  exact ⟨z, hz, hr.stable (fun _ h _ => h) hSw hg.size⟩
              obtain ⟨hB, hBa⟩ := arrOf_box (μ := updM μ id v') hq hq' hA
              have hK := h.kill id
              have hboxK : (killH id st.heap)[id]? = some (.arr E (szOf C.P E) enc d l) := by rw [killH_get, hbox]; rfl
              have hv'b : ∀ b, blkOf v' = some b → (μ id).ownBlock = some b ∨ w.heap.size ≤ b := by
                intro b hb
                have hvv : v'.ownBlock = blkOf v' := by
                  rcases ho.2 with ⟨rfl, _⟩ | ⟨g, cap, cur, rfl, _⟩ <;> rfl
                rcases hblk with hblk | hblk
                · exact .inl (by rw [← hblk, hvv]; exact hb)
                · rw [hvv, hb] at hblk
                  cases hblk
                  exact .inr (Nat.le_refl _)
              have hu2 := hK.upd (id := id) (B := B) (row := (μ id).ownBlock) (u := v') hg (fun k hk => ⟨_, hboxK, rfl, by rw [← hown]; exact hk⟩) (by show id ≤ (killH id st.heap).length; rw [killH_length]; omega)
                hB hv'b (.inr ⟨fun A hA => by have hA' : (killH id st.heap)[id]? = some A := hA; rw [hboxK] at hA'; cases hA'; rfl, killE_free id _, killH_free id _⟩)
              refine ⟨v', w', _, hrun, hu2.put htd ?_⟩
              have := DRep.own (S := S) (μ := updM μ id v') (w := w') id
              rwa [updM_same] at this
            · exact fail_elim hp hob
          · exact fail_elim hp hob
        · generalize hq : arrOf E (szOf C.P E) new ov = q at hp
          obtain ⟨B, q⟩ := q
          simp only at hp
          have hq2 : new.length ≤ 137438953472 ∧ q := by
            have hp' := hp
            unfold newBox at hp'
            split at hp'
            · split at hp'
              · simp only [Prod.mk.injEq] at hp'; rw [← hp'.2] at hob; exact hob
              · exact fail_elim hp' hob
            · exact fail_elim hp' hob
          obtain ⟨hlen, hq'⟩ := hq2
          cases hs
          obtain ⟨v', w', hrun, ho, hg, hblk⟩ := run_append_here (P := C.P) (w := w) t ty E i v hu hi hv hvs (World.ownsRow_nil w 0 E i.size) n1 n2 n3 n4 (by simp only [maxLen]; omega) (bytes _ (by omega))
          have hg' : w.grownBy w' none := hg
          have hSw : ∀ b, S b → b < w.heap.size → w'.heap[b]? = w.heap[b]? := fun b hb hl => hg'.block b hl (by simp)
          have hA : ArrL S w' E (szOf C.P E) ([] ++ new) v' := by
            rw [hsz] at ho n2 n5 n6
            refine ArrL.append (xs := []) (fun k x hx => by simp at hx) (by simp) (fun k x j y hx => by simp at hx) n5 (fun k x j y hx hy => ?_) (by simpa using ho)
            obtain ⟨z, hz, hr⟩ := n6 k x j y hx hy
            exact ⟨z, hz, hr.stable (fun _ h _ => h) hSw hg'.size⟩
          rw [List.nil_append] at hA
          obtain ⟨hB, hBa⟩ := arrOf_box (μ := updM μ st.heap.length v') hq hq' hA
          refine ⟨v', w', _, hrun, (h.newBox hp hob hg' hB (fun b hb => ?_) ?_).2⟩
          · have hvv : v'.ownBlock = blkOf v' := by
              rcases ho.2 with ⟨rfl, _⟩ | ⟨g, cap, cur, rfl, _⟩ <;> rfl
            rcases hblk with hblk | hblk
            · rw [hvv, hb] at hblk; cases hblk
            · rw [hvv, hb] at hblk; cases hblk; exact Nat.le_refl _
          · have := DRep.own (S := S) (μ := updM μ st.heap.length v') (w := w') st.heap.length
            rwa [updM_same] at this
        · rename_i sz' α enc d0 l
          split at hp
          · rename_i hsz'
            rw [Nat.beq_eq] at hsz'
            subst hsz'
            generalize hq : arrOf E (szOf C.P E) (l.map enc ++ new) ov = q at hp
            obtain ⟨B, q⟩ := q
            simp only at hp
            have hq2 : 0 < new.length ∧ l.length + new.length ≤ 137438953472 ∧ q := by
              have hp' := hp
              unfold newBox at hp'
              split at hp'
              · split at hp'
                · simp only [Prod.mk.injEq] at hp'; rw [← hp'.2] at hob; exact hob
                · exact fail_elim hp' hob
              · exact fail_elim hp' hob
            obtain ⟨hpos, hlen, hq'⟩ := hq2
            cases hs with
            | capd _ p n hrep =>
              obtain ⟨pq, cq, xs, he, x0, x1, x2, _, hl0, x3⟩ := srcOf_cells h.heap hs1 (new := l.map enc) (x := .v (.sl (szOf C.P E) enc d0 l)) (by simp [srcOf]) (.v _ _ hrep)
              simp only [Value.slice.injEq, List.length_map] at he x1
              obtain ⟨rfl, rfl, rfl⟩ := he
              rw [← hsz] at x1
              obtain ⟨v', w', hrun, ho, hg, hblk⟩ := run_append_full (P := C.P) (w := w) t ty E i v hu hi hv hvs (p := p) (n := l.length) (xs := xs) (fun e => by have := (x0 e).2; simpa using this) x1 x2 n1 n2 n3 hpos (by simp only [maxLen]; omega) (bytes _ hlen)
              have hSw : ∀ b, S b → b < w.heap.size → w'.heap[b]? = w.heap[b]? := fun b hb hl => hg.block b hl (by simp)
              have hA : ArrL S w' E (szOf C.P E) (l.map enc ++ new) v' := by
                rw [hsz] at ho n2 n5 n6 x1
                refine ArrL.append hl0 (by rw [x1]; simp) (fun k x j y hx hy => ?_) n5 (fun k x j y hx hy => ?_) (by simpa using ho)
                · obtain ⟨z, hz, hr⟩ := x3 k x j y hx hy
                  exact ⟨z, hz, hr.stable (fun _ h _ => h) hSw hg.size⟩
                · obtain ⟨z, hz, hr⟩ := n6 k x j y hx hy
                  exact ⟨z, hz, hr.stable (fun _ h _ => h) hSw hg.size⟩
              obtain ⟨hB, hBa⟩ := arrOf_box (μ := updM μ st.heap.length v') hq hq' hA
              refine ⟨v', w', _, hrun, (h.newBox hp hob hg hB (fun b hb => ?_) ?_).2⟩
              · have hvv : v'.ownBlock = blkOf v' := by
                  rcases ho.2 with ⟨rfl, _⟩ | ⟨g, cap, cur, rfl, _⟩ <;> rfl
                rw [hvv, hb] at hblk
                cases hblk
                exact Nat.le_refl _
              · have := DRep.own (S := S) (μ := updM μ st.heap.length v') (w := w') st.heap.length
                rwa [updM_same] at this
          · exact fail_elim hp hob
        · exact fail_elim hp hob
      · exact fail_elim hp hob
    · exact fail_elim hp hob
  · exact fail_elim hp hob

end
end Go.Proofs.Ytjmfaebimgnblaa
