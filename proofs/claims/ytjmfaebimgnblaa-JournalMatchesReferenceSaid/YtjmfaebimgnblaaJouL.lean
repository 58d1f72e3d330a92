/-
  Journals, plain law: what is read of a journal, of its beginnings and of damaged ones.
-/
import Derived.Test.YtjmfaebimgnblaaJouA0
import Derived.Test.YtjmfaebimgnblaaPureC
namespace Go.Proofs.Ytjmfaebimgnblaa
open Go.RowKit
set_option linter.unusedVariables false
set_option linter.unusedSimpArgs false

/-! Words and bytes. -/
theorem leF_bytesK (n : Nat) : ∀ k, leF (bytesK (n : Int) k) = ((n % 256 ^ k : Nat) : Int)
  | 0 => by simp [bytesK, leF, Nat.mod_one]
  | k + 1 => by
    rw [bytesK_succ, leF_append, leF_bytesK n k, bytesK_len]
    have h1 : byteN (n : Int) k = ((n / 256 ^ k % 256 : Nat) : Int) := by unfold byteN; simp
    rw [h1, Nat.pow_succ, Nat.mod_mul]
    simp
theorem leF_inj : ∀ {a b : List Int}, Bytes8 a → Bytes8 b → a.length = b.length → leF a = leF b → a = b
  | [], [], _, _, _, _ => rfl
  | [], _ :: _, _, _, h, _ => by simp at h
  | _ :: _, [], _, _, h, _ => by simp at h
  | x :: a, y :: b, ha, hb, hl, h => by
    have hx := ha x (List.mem_cons_self ..)
    have hy := hb y (List.mem_cons_self ..)
    simp only [leF] at h
    have e : x = y := by omega
    have e2 : leF a = leF b := by omega
    rw [e, leF_inj (fun z hz => ha z (List.mem_cons_of_mem _ hz)) (fun z hz => hb z (List.mem_cons_of_mem _ hz)) (by simpa using hl) e2]
theorem leF_word {w : Int} (h : Word64 w) : leF (bytesK w 8) = w := by
  obtain ⟨n, rfl⟩ := Int.eq_ofNat_of_zero_le h.1
  have := leF_bytesK n 8
  rw [this, Nat.mod_eq_of_lt]
  have := h.2
  omega
theorem bytesK_leF {b : List Int} (hb : Bytes8 b) (hl : b.length = 8) : bytesK (leF b) 8 = b := by
  refine leF_inj (bytesK_8 _ _) hb (by rw [bytesK_len, hl]) ?_
  have h := leF_bound b hb
  rw [hl] at h
  exact leF_word ⟨h.1, by have := h.2; omega⟩
theorem wordN_at (pre post : List Int) {w : Int} (hw : Word64 w) {i : Nat} (hi : i = pre.length) : (wordN (pre ++ (bytesK w 8 ++ post)) i : Int) = w := by
  subst hi
  unfold wordN partN
  rw [List.drop_left, List.take_left' (bytesK_len _ _), leF_word hw]
  exact Int.toNat_of_nonneg hw.1
theorem wordN_take {b : List Int} {n i : Nat} (h : i + 8 ≤ n) : wordN (b.take n) i = wordN b i := by
  unfold wordN partN
  rw [List.drop_take, List.take_take, Nat.min_eq_left (by omega)]
theorem wordN_8 {b : List Int} (hb : Bytes8 b) {i : Nat} (h : i + 8 ≤ b.length) : bytesK (wordN b i : Int) 8 = (b.drop i).take 8 := by
  unfold wordN
  rw [partN_int hb]
  exact bytesK_leF ((hb.drop i).take 8) (by rw [List.length_take, List.length_drop]; omega)
theorem wordN_word {b : List Int} (hb : Bytes8 b) (i : Nat) : Word64 (wordN b i : Int) := ⟨by omega, by have := wordN_lt hb i; omega⟩

/-- One byte is another one. -/
structure Odd (b : List Int) (i : Nat) (y : Int) : Prop where
  lt : i < b.length
  ne : y ≠ b.getD i 0
  byte : 0 ≤ y ∧ y < 256
theorem Odd.bytes {b : List Int} {i : Nat} {y : Int} (h : Odd b i y) (hb : Bytes8 b) : Bytes8 (b.set i y) := fun x hx => by
  rcases List.mem_or_eq_of_mem_set hx with hx | hx
  · exact hb x hx
  · rw [hx]; exact h.byte
theorem drop8_set (b : List Int) (i p : Nat) (y : Int) : ((b.set i y).drop p).take 8 = if p ≤ i then ((b.drop p).take 8).set (i - p) y else (b.drop p).take 8 := by
  rw [List.drop_set]
  split
  · rw [if_neg (by omega)]
  · rw [if_pos (by omega), List.take_set]
theorem wordN_far {b : List Int} {i p : Nat} {y : Int} (h : i < p ∨ p + 8 ≤ i) : wordN (b.set i y) p = wordN b p := by
  unfold wordN partN
  rw [drop8_set]
  split
  · rw [List.set_eq_of_length_le (by rw [List.length_take]; omega)]
  · rfl
theorem wordN_near {b : List Int} {i p : Nat} {y : Int} (ho : Odd b i y) (hb : Bytes8 b) (h1 : p ≤ i) (h2 : i < p + 8) (h3 : p + 8 ≤ b.length) : wordN (b.set i y) p ≠ wordN b p := by
  intro e
  have e1 := partN_int (ho.bytes hb) p 8
  have e2 := partN_int hb p 8
  have e3 : leF (((b.set i y).drop p).take 8) = leF ((b.drop p).take 8) := by
    rw [← e1, ← e2]
    exact congrArg _ e
  have hl : ((b.drop p).take 8).length = 8 := by rw [List.length_take, List.length_drop]; omega
  have e4 := leF_inj (((ho.bytes hb).drop p).take 8) ((hb.drop p).take 8) (by simp) e3
  rw [drop8_set, if_pos h1] at e4
  have e5 := congrArg (fun l => l.getD (i - p) 0) e4
  simp only [List.getD] at e5
  rw [List.getElem?_set_self (by omega), List.getElem?_take, if_pos (by omega), List.getElem?_drop, show p + (i - p) = i from by omega] at e5
  exact ho.ne (by simpa [List.getD] using e5)

/-! Records. -/
abbrev Ints64 (r : List Int) : Prop := ∀ x ∈ r, -9223372036854775808 ≤ x ∧ x ≤ 9223372036854775807
abbrev RecOk (r : List Int) : Prop := r.length ≤ 256 ∧ Ints64 r
def recs (r : List Int) : List Int := r.flatMap (fun v => bytesK (u64 v) 8)
theorem recs_len (r : List Int) : (recs r).length = 8 * r.length := by
  unfold recs
  induction r with
  | nil => rfl
  | cons x r ih => simp only [List.flatMap_cons, List.length_append, bytesK_len, List.length_cons, ih]; omega
theorem recs_append (a b : List Int) : recs (a ++ b) = recs a ++ recs b := by simp [recs]
theorem recs_cons (x : Int) (b : List Int) : recs (x :: b) = bytesK (u64 x) 8 ++ recs b := by simp [recs]
theorem u64_word (v : Int) : Word64 (u64 v) := wrap_word _
theorem wrap_back {v : Int} (h : -9223372036854775808 ≤ v ∧ v ≤ 9223372036854775807) : IntKind.i64.wrap (u64 v) = v := by
  unfold u64
  rw [IntKind.wrap_u64, IntKind.wrap_i64]
  omega
theorem wrap_forth {w : Int} (h : Word64 w) : u64 (IntKind.i64.wrap w) = w := by
  unfold u64
  rw [IntKind.wrap_u64, IntKind.wrap_i64]
  have := h.1
  have := h.2
  omega
theorem recN_recs (pre post r : List Int) (hp : pre.length = 16) (hr : Ints64 r) : recN (pre ++ (recs r ++ post)) r.length = r := by
  refine List.ext_getElem (by rw [recN_len]) (fun i h1 h2 => ?_)
  simp only [recN, List.getElem_map, List.getElem_range]
  have e : pre ++ (recs r ++ post) = (pre ++ recs (r.take i)) ++ (bytesK (u64 r[i]) 8 ++ (recs (r.drop (i + 1)) ++ post)) := by
    have : recs r = recs (r.take i) ++ (bytesK (u64 r[i]) 8 ++ recs (r.drop (i + 1))) := by
      rw [← recs_cons, ← recs_append, ← List.drop_eq_getElem_cons h2, List.take_append_drop]
    rw [this]
    simp only [List.append_assoc]
  rw [e, wordN_at _ _ (u64_word _) (by rw [List.length_append, recs_len, List.length_take, hp]; omega)]
  exact wrap_back (hr _ (List.getElem_mem h2))

theorem encF_eq (s : Int) (r : List Int) : encF s r = bytesK r.length 8 ++ (bytesK (tagF s [(r.length : Int)]) 8 ++ (recs r ++ bytesK (tagF s r) 8)) := by
  unfold encF recs
  simp
theorem len_word {r : List Int} (h : RecOk r) : Word64 (r.length : Int) := nat_word _ (by have := h.1; omega)

theorem encF_one (s : Int) (r t : List Int) : encF s r ++ t = bytesK r.length 8 ++ (bytesK (tagF s [(r.length : Int)]) 8 ++ (recs r ++ (bytesK (tagF s r) 8 ++ t))) := by
  rw [encF_eq]
  simp only [List.append_assoc]
theorem enc_w0 (s : Int) {r : List Int} (h : RecOk r) (t : List Int) : wordN (encF s r ++ t) 0 = r.length := by
  rw [encF_one]
  have := wordN_at [] (bytesK (tagF s [(r.length : Int)]) 8 ++ (recs r ++ (bytesK (tagF s r) 8 ++ t))) (len_word h) (i := 0) rfl
  rw [List.nil_append] at this
  exact Int.ofNat.inj this
theorem enc_w8 (s : Int) (r t : List Int) : (wordN (encF s r ++ t) 8 : Int) = tagF s [(r.length : Int)] := by
  rw [encF_one]
  have hl : 8 = (bytesK (r.length : Int) 8).length := (bytesK_len _ _).symm
  exact wordN_at (bytesK (r.length : Int) 8) (recs r ++ (bytesK (tagF s r) 8 ++ t)) (tagF_word s [(r.length : Int)]) hl
theorem enc_rec (s : Int) {r : List Int} (h : RecOk r) (t : List Int) : recN (encF s r ++ t) r.length = r := by
  rw [encF_one, ← List.append_assoc]
  generalize hw : tagF s [(r.length : Int)] = w
  have hl : (bytesK (r.length : Int) 8 ++ bytesK w 8).length = 16 := by rw [List.length_append, bytesK_len, bytesK_len]
  exact recN_recs _ _ r hl h.2
theorem enc_seal (s : Int) (r t : List Int) : (wordN (encF s r ++ t) (16 + 8 * r.length) : Int) = tagF s r := by
  rw [encF_one, ← List.append_assoc, ← List.append_assoc]
  have hw := tagF_word s r
  generalize tagF s [(r.length : Int)] = w
  generalize tagF s r = q at hw
  have hl : 16 + 8 * r.length = (bytesK (r.length : Int) 8 ++ bytesK w 8 ++ recs r).length := by rw [List.length_append, List.length_append, bytesK_len, bytesK_len, recs_len]
  exact wordN_at _ _ hw hl
/-- The words of a record's encoding. -/
theorem enc_words (s : Int) {r : List Int} (h : RecOk r) (t : List Int) : wordN (encF s r ++ t) 0 = r.length ∧ (wordN (encF s r ++ t) 8 : Int) = tagF s [(r.length : Int)] ∧ recN (encF s r ++ t) r.length = r ∧ (wordN (encF s r ++ t) (16 + 8 * r.length) : Int) = tagF s r :=
  ⟨enc_w0 s h t, enc_w8 s r t, enc_rec s h t, enc_seal s r t⟩
theorem enc_good (s : Int) {r : List Int} (h : RecOk r) (t : List Int) : ¬ badN (encF s r ++ t) s := by
  obtain ⟨h1, h2, h3, h4⟩ := enc_words s h t
  unfold badN
  rw [h1, h2, h3, h4, List.length_append, encF_len]
  have := h.1
  simp only [ne_eq, not_true_eq_false, or_false, not_or]
  omega
theorem read_enc (s : Int) {r : List Int} (h : RecOk r) (t : List Int) : readF (encF s r ++ t) s = (r :: (readF t (tagF s r)).1, (readF t (tagF s r)).2) := by
  have hb := enc_good s h t
  obtain ⟨h1, h2, h3, h4⟩ := enc_words s h t
  rw [readF_ok hb, nextL_ok hb, nextR_ok hb, nextS_ok hb, h1, h3, h4]
  rw [List.drop_left' (by rw [encF_len])]

/-! Many records. -/
def encs : Int → List (List Int) → List Int
  | _, [] => []
  | s, r :: l => encF s r ++ encs (tagF s r) l
def sealF : Int → List (List Int) → Int
  | s, [] => s
  | s, r :: l => sealF (tagF s r) l
def lenR : List (List Int) → Nat
  | [] => 0
  | r :: l => 24 + 8 * r.length + lenR l
theorem encs_len : ∀ (l : List (List Int)) (s : Int), (encs s l).length = lenR l
  | [], _ => rfl
  | r :: l, s => by rw [encs, List.length_append, encF_len, encs_len l, lenR]
theorem encs_append : ∀ (a b : List (List Int)) (s : Int), encs s (a ++ b) = encs s a ++ encs (sealF s a) b
  | [], b, s => rfl
  | r :: a, b, s => by simp only [List.cons_append, encs, sealF, encs_append a b, List.append_assoc]
theorem sealF_append : ∀ (a b : List (List Int)) (s : Int), sealF s (a ++ b) = sealF (sealF s a) b
  | [], b, s => rfl
  | r :: a, b, s => by simp only [List.cons_append, sealF, sealF_append a b]
theorem lenR_append (a b : List (List Int)) : lenR (a ++ b) = lenR a + lenR b := by
  induction a with
  | nil => simp [lenR]
  | cons r a ih => simp only [List.cons_append, lenR, ih]; omega
theorem encs_8 : ∀ (l : List (List Int)) (s : Int), Bytes8 (encs s l)
  | [], _ => nil_8
  | r :: l, s => (encF_8 s r).append (encs_8 l _)
abbrev AllOk (l : List (List Int)) : Prop := ∀ r ∈ l, RecOk r
theorem AllOk.take {l : List (List Int)} (h : AllOk l) (k : Nat) : AllOk (l.take k) := fun r hr => h r (List.mem_of_mem_take hr)
theorem AllOk.append {a b : List (List Int)} (h : AllOk a) (k : AllOk b) : AllOk (a ++ b) := fun r hr => (List.mem_append.1 hr).elim (h r) (k r)
theorem read_encs : ∀ (l : List (List Int)) (s : Int) (t : List Int), AllOk l → readF (encs s l ++ t) s = (l ++ (readF t (sealF s l)).1, (readF t (sealF s l)).2)
  | [], s, t, _ => rfl
  | r :: l, s, t, h => by
    rw [encs, List.append_assoc, read_enc s (h r (List.mem_cons_self ..)), read_encs l _ t (fun q hq => h q (List.mem_cons_of_mem _ hq))]
    rfl
theorem read_nil (s : Int) : readF [] s = ([], [], s) := readF_bad (.inl (by simp))
theorem read_all (l : List (List Int)) (s : Int) (h : AllOk l) : readF (encs s l) s = (l, [], sealF s l) := by
  have := read_encs l s [] h
  rw [List.append_nil] at this
  rw [this, read_nil]
  simp
theorem put_encs {l : List (List Int)} (h : AllOk l) {r : List Int} (hr : r.length ≤ 256) (hl : lenR l + 24 + 8 * r.length ≤ 65536) : jputJ (encs 0 l) r = encs 0 (l ++ [r]) ∧ jputE (encs 0 l) r = 0 := by
  unfold jputJ jputE
  rw [read_all l 0 h, encs_len]
  simp only [List.length_nil, Nat.lt_irrefl, if_false]
  rw [if_neg (by omega), if_neg (by omega), if_neg (by omega), if_neg (by omega), encs_append]
  simp [encs]
theorem lenR_take_succ {l : List (List Int)} {k : Nat} (h : k < l.length) : lenR (l.take (k + 1)) = lenR (l.take k) + (24 + 8 * (l.getD k []).length) := by
  rw [List.take_succ_eq_append_getElem h, lenR_append]
  simp [lenR, List.getD, List.getElem?_eq_getElem h]
theorem lenR_take_le (l : List (List Int)) (k : Nat) : lenR (l.take k) ≤ lenR l := by
  conv => rhs; rw [← List.take_append_drop k l]
  rw [lenR_append]; omega
theorem lenR_take_mono (l : List (List Int)) {i k : Nat} (h : i ≤ k) : lenR (l.take i) ≤ lenR (l.take k) := by
  have := lenR_take_le (l.take k) i
  rwa [List.take_take, Nat.min_eq_left h] at this
theorem jr_encs {l : List (List Int)} (h : AllOk l) (hl : lenR l ≤ 65536) : ∀ k, k ≤ l.length → jr l k = encs 0 (l.take k)
  | 0, _ => rfl
  | k + 1, hk => by
    have hk' : k < l.length := hk
    have e : l.getD k [] = l[k] := by simp [List.getD, List.getElem?_eq_getElem hk']
    have h3 := lenR_take_succ hk'
    have h4 := lenR_take_le l (k + 1)
    rw [e] at h3
    rw [jr, jr_encs h hl k (by omega), e, (put_encs (h.take k) (h _ (List.getElem_mem hk')).1 (by omega)).1, List.take_succ_eq_append_getElem hk']
theorem jr_length {l : List (List Int)} (h : AllOk l) (hl : lenR l ≤ 65536) {k : Nat} (hk : k ≤ l.length) : (jr l k).length = lenR (l.take k) := by
  rw [jr_encs h hl k hk, encs_len]
theorem jr_all {l : List (List Int)} (h : AllOk l) (hl : lenR l ≤ 65536) : jr l l.length = encs 0 l := by
  rw [jr_encs h hl _ (Nat.le_refl _), List.take_length]
theorem read_jr {l : List (List Int)} (h : AllOk l) (hl : lenR l ≤ 65536) : readF (jr l l.length) 0 = (l, [], sealF 0 l) := by
  rw [jr_all h hl, read_all l 0 h]

/-! Small lists of records. -/
theorem lenR_small : ∀ (l : List (List Int)) (n : Nat), (∀ r ∈ l, r.length ≤ n) → lenR l ≤ l.length * (24 + 8 * n)
  | [], _, _ => by simp [lenR]
  | r :: l, n, h => by
    have := lenR_small l n (fun q hq => h q (List.mem_cons_of_mem _ hq))
    have := h r (List.mem_cons_self ..)
    have e : (l.length + 1) * (24 + 8 * n) = l.length * (24 + 8 * n) + (24 + 8 * n) := Nat.succ_mul _ _
    rw [lenR, List.length_cons, e]
    generalize l.length * (24 + 8 * n) = z at *
    omega
structure SmallOk (l : List (List Int)) : Prop where
  len : l.length ≤ 12
  each : ∀ r ∈ l, r.length ≤ 12
  ints : ∀ r ∈ l, Ints64 r
theorem smallF_ok {l : List (List Int)} (h : smallF l = true) (hi : ∀ r ∈ l, Ints64 r) : SmallOk l := by
  unfold smallF at h
  simp only [Bool.and_eq_true, List.all_eq_true, decide_eq_true_eq] at h
  exact ⟨h.2, h.1, hi⟩
theorem SmallOk.all {l : List (List Int)} (h : SmallOk l) : AllOk l := fun r hr => ⟨by have := h.each r hr; omega, h.ints r hr⟩
theorem SmallOk.lenR {l : List (List Int)} (h : SmallOk l) : Proofs.Ytjmfaebimgnblaa.lenR l ≤ 1440 := by
  have := lenR_small l 12 h.each
  have := h.len
  have : l.length * (24 + 8 * 12) ≤ 12 * (24 + 8 * 12) := Nat.mul_le_mul_right _ this
  omega
theorem SmallOk.recs {l : List (List Int)} (h : SmallOk l) : RecsOk l := ⟨by have := h.len; omega, fun r hr => by have := h.each r hr; omega⟩

/-! Beginnings of journals. -/
theorem bad_short (s : Int) {r : List Int} (h : RecOk r) (t : List Int) {n : Nat} (hn : n < 24 + 8 * r.length) : badN ((encF s r ++ t).take n) s := by
  have hl : ((encF s r ++ t).take n).length = n := by rw [List.length_take, List.length_append, encF_len]; omega
  by_cases h24 : n < 24
  · exact .inl (by omega)
  · refine .inr (.inr (.inl ?_))
    rw [wordN_take (by omega), (enc_words s h t).1, hl]
    omega
/-- The first n bytes of a journal: k records lie within them. -/
theorem read_short {l : List (List Int)} (h : AllOk l) {n k : Nat} (hk : k ≤ l.length) (h1 : lenR (l.take k) ≤ n) (h2 : k < l.length → n < lenR (l.take (k + 1))) (h3 : n ≤ lenR l) :
    readF ((encs 0 l).take n) 0 = (l.take k, ((encs 0 l).take n).drop (lenR (l.take k)), sealF 0 (l.take k)) := by
  have e : encs 0 l = encs 0 (l.take k) ++ encs (sealF 0 (l.take k)) (l.drop k) := by
    conv => lhs; rw [← List.take_append_drop k l]
    rw [encs_append]
  have e2 : (encs 0 l).take n = encs 0 (l.take k) ++ (encs (sealF 0 (l.take k)) (l.drop k)).take (n - lenR (l.take k)) := by
    rw [e, List.take_append, encs_len, List.take_of_length_le (by rw [encs_len]; exact h1)]
  have hb : badN ((encs (sealF 0 (l.take k)) (l.drop k)).take (n - lenR (l.take k))) (sealF 0 (l.take k)) := by
    rcases Nat.lt_or_ge k l.length with hlt | hge
    · rw [List.drop_eq_getElem_cons hlt, encs]
      have h4 := lenR_take_succ hlt
      have e4 : l.getD k [] = l[k] := by simp [List.getD, List.getElem?_eq_getElem hlt]
      rw [e4] at h4
      have := h2 hlt
      exact bad_short _ (h _ (List.getElem_mem hlt)) _ (by omega)
    · rw [List.drop_of_length_le hge]
      exact .inl (by simp [encs])
  rw [e2, read_encs _ _ _ (h.take k), readF_bad hb, List.drop_left' (encs_len _ _)]
  simp

/-! Damage. -/
theorem stps_inj : ∀ (l : List Int) (h h' : Int), In64 h → In64 h' → stps h l = stps h' l → h = h'
  | [], h, h', _, _, e => e
  | x :: l, h, h', hh, hh', e => stp_left hh hh' (stps_inj l (stp h x) (stp h' x) (stp_in _ _) (stp_in _ _) e)
theorem stps_append (s : Int) (a b : List Int) : stps s (a ++ b) = stps (stps s a) b := by simp [stps, List.foldl_append]
theorem stps_change {l : List Int} {i : Nat} {x y : Int} (hx : l[i]? = some x) (wx : In64 x) (wy : In64 y) (hne : x ≠ y) (s : Int) : stps s (l.set i y) ≠ stps s l := by
  intro e
  have hi := (List.getElem?_eq_some_iff.1 hx).1
  have hxi : l[i] = x := (List.getElem?_eq_some_iff.1 hx).2
  have e1 : l = l.take i ++ x :: l.drop (i + 1) := by
    conv => lhs; rw [← List.take_append_drop i l, List.drop_eq_getElem_cons hi, hxi]
  have e2 : l.set i y = l.take i ++ y :: l.drop (i + 1) := by
    rw [List.set_eq_take_append_cons_drop, if_pos hi]
  rw [e2] at e
  conv at e => rhs; rw [e1]
  rw [stps_append, stps_append] at e
  have e3 : stps (stp (stps s (l.take i)) y) (l.drop (i + 1)) = stps (stp (stps s (l.take i)) x) (l.drop (i + 1)) := e
  exact hne (stp_right wy wx (stps_inj _ _ _ (stp_in _ _) (stp_in _ _) e3)).symm
theorem stps_in {s : Int} (h : In64 s) (l : List Int) : In64 (stps s l) := by
  induction l generalizing s with
  | nil => exact h
  | cons x l ih => exact ih (stp_in _ _)
theorem wordsF_in (l : List Int) : In64 (wordsF l) := stp_in _ _
/-- Lists of one length that differ in exactly one element have other digests. -/
theorem wordsF_change {l : List Int} {i : Nat} {x y : Int} (hx : l[i]? = some x) (hne : u64 x ≠ u64 y) : wordsF (l.set i y) ≠ wordsF l := by
  intro e
  unfold wordsF at e
  rw [List.length_set] at e
  have c : In64 512970876019 := ⟨by omega, by omega⟩
  have := stp_left (stps_in c _) (stps_in c _) e
  rw [List.map_set] at this
  exact stps_change (l := l.map u64) (i := i) (x := u64 x) (y := u64 y) (by simp [hx]) (u64_word x) (u64_word y) hne _ this
theorem tagF_change {l : List Int} {i : Nat} {x y : Int} (hx : l[i]? = some x) (hne : u64 x ≠ u64 y) (s : Int) : tagF s (l.set i y) ≠ tagF s l := fun e =>
  wordsF_change hx hne (stp_right (wordsF_in _) (wordsF_in _) e)
theorem u64_of_word {w : Int} (h : Word64 w) : u64 w = w := by unfold u64; rw [IntKind.wrap_u64]; have := h.1; have := h.2; omega

theorem bad_odd (s : Int) {r : List Int} (h : RecOk r) (t : List Int) (ht : Bytes8 t) {i : Nat} {y : Int} (hi : i < 24 + 8 * r.length) (ho : Odd (encF s r ++ t) i y) : badN ((encF s r ++ t).set i y) s := by
  obtain ⟨h1, h2, h3, h4⟩ := enc_words s h t
  have hb : Bytes8 (encF s r ++ t) := (encF_8 s r).append ht
  have hl : (encF s r ++ t).length = 24 + 8 * r.length + t.length := by rw [List.length_append, encF_len]
  unfold badN
  rw [List.length_set]
  by_cases c0 : i < 8
  · -- the number of elements
    have hne := wordN_near ho hb (p := 0) (by omega) (by omega) (by omega)
    have h8 : wordN ((encF s r ++ t).set i y) 8 = wordN (encF s r ++ t) 8 := wordN_far (.inl (by omega))
    refine .inr (.inr (.inr (.inl ?_)))
    rw [h8, h2]
    have hw := wordN_word (ho.bytes hb) 0
    have := tagF_change (l := [(r.length : Int)]) (i := 0) (x := (r.length : Int)) (y := (wordN ((encF s r ++ t).set i y) 0 : Int)) rfl (by rw [u64_of_word hw, u64_of_word (len_word h)]; rw [h1] at hne; omega) s
    exact fun e => this e.symm
  by_cases c1 : i < 16
  · have hne := wordN_near ho hb (p := 8) (by omega) (by omega) (by omega)
    have h0 : wordN ((encF s r ++ t).set i y) 0 = wordN (encF s r ++ t) 0 := wordN_far (.inr (by omega))
    refine .inr (.inr (.inr (.inl ?_)))
    rw [h0, h1, ← h2]
    omega
  have h0 : wordN ((encF s r ++ t).set i y) 0 = r.length := by rw [wordN_far (.inr (by omega)), h1]
  rw [h0]
  by_cases c2 : i < 16 + 8 * r.length
  · refine .inr (.inr (.inr (.inr ?_)))
    rw [wordN_far (.inl (by omega)), h4]
    -- the element with the byte
    have hj : (i - 16) / 8 < r.length := by omega
    have hne := wordN_near ho hb (p := 16 + 8 * ((i - 16) / 8)) (by omega) (by omega) (by omega)
    have e : recN ((encF s r ++ t).set i y) r.length = r.set ((i - 16) / 8) (IntKind.i64.wrap (wordN ((encF s r ++ t).set i y) (16 + 8 * ((i - 16) / 8)) : Int)) := by
      conv => rhs; arg 1; rw [← h3]
      refine List.ext_getElem (by simp [recN]) (fun j q1 q2 => ?_)
      rw [List.getElem_set]
      split
      · rename_i hje
        simp [recN, hje]
      · rename_i hje
        simp only [recN, List.getElem_map, List.getElem_range]
        rw [wordN_far]
        omega
    rw [e]
    have hw := wordN_word (ho.bytes hb) (16 + 8 * ((i - 16) / 8))
    have hw0 := wordN_word hb (16 + 8 * ((i - 16) / 8))
    have hrj : r[(i - 16) / 8]? = some (IntKind.i64.wrap (wordN (encF s r ++ t) (16 + 8 * ((i - 16) / 8)) : Int)) := by
      conv => lhs; rw [← h3]
      simp [recN, hj]
    exact fun e => tagF_change hrj (by rw [wrap_forth hw, wrap_forth hw0]; omega) s e.symm
  · refine .inr (.inr (.inr (.inr ?_)))
    have hne := wordN_near ho hb (p := 16 + 8 * r.length) (by omega) (by omega) (by omega)
    have e : recN ((encF s r ++ t).set i y) r.length = r := by
      conv => rhs; rw [← h3]
      refine List.ext_getElem (by simp [recN]) (fun j q1 q2 => ?_)
      simp only [recN, List.getElem_map, List.getElem_range]
      simp only [recN_len] at q1
      rw [wordN_far]
      omega
    rw [e, ← h4]
    omega

/-- One byte of a journal is another one: the records ahead of it are read. -/
theorem read_odd {l : List (List Int)} (h : AllOk l) {i k : Nat} {y : Int} (hk : k < l.length) (h1 : lenR (l.take k) ≤ i) (h2 : i < lenR (l.take (k + 1))) (ho : Odd (encs 0 l) i y) :
    readF ((encs 0 l).set i y) 0 = (l.take k, ((encs 0 l).set i y).drop (lenR (l.take k)), sealF 0 (l.take k)) := by
  have e : encs 0 l = encs 0 (l.take k) ++ encs (sealF 0 (l.take k)) (l.drop k) := by
    conv => lhs; rw [← List.take_append_drop k l]
    rw [encs_append]
  have e2 : (encs 0 l).set i y = encs 0 (l.take k) ++ (encs (sealF 0 (l.take k)) (l.drop k)).set (i - lenR (l.take k)) y := by
    rw [e, List.set_append, encs_len, if_neg (by omega)]
  have ho2 : Odd (encs (sealF 0 (l.take k)) (l.drop k)) (i - lenR (l.take k)) y := by
    refine ⟨?_, ?_, ho.byte⟩
    · have := ho.lt
      rw [e, List.length_append, encs_len] at this
      omega
    · have := ho.ne
      rw [e] at this
      unfold List.getD at this ⊢
      rw [List.getElem?_append_right (by rw [encs_len]; exact h1), encs_len] at this
      exact this
  have hb : badN ((encs (sealF 0 (l.take k)) (l.drop k)).set (i - lenR (l.take k)) y) (sealF 0 (l.take k)) := by
    rw [List.drop_eq_getElem_cons hk, encs] at ho2 ⊢
    have h4 := lenR_take_succ hk
    have e4 : l.getD k [] = l[k] := by simp [List.getD, List.getElem?_eq_getElem hk]
    rw [e4] at h4
    exact bad_odd _ (h _ (List.getElem_mem hk)) _ (encs_8 _ _) (by omega) ho2
  rw [e2, read_encs _ _ _ (h.take k), readF_bad hb, List.drop_left' (encs_len _ _)]
  simp

/-! Any bytes. -/
theorem word_split {b : List Int} (hb : Bytes8 b) {i : Nat} (h : i + 8 ≤ b.length) : b.drop i = bytesK (wordN b i : Int) 8 ++ b.drop (i + 8) := by
  rw [wordN_8 hb h]
  conv => lhs; rw [← List.take_append_drop 8 (b.drop i)]
  rw [List.drop_drop]
theorem recs_split {b : List Int} (hb : Bytes8 b) : ∀ n, 16 + 8 * n ≤ b.length → (b.drop 16) = recs (recN b n) ++ b.drop (16 + 8 * n)
  | 0, _ => by simp [recs, recN]
  | n + 1, h => by
    have e : recN b (n + 1) = recN b n ++ [IntKind.i64.wrap (wordN b (16 + 8 * n) : Int)] := by simp [recN, List.range_succ]
    rw [recs_split hb n (by omega), e, word_split hb (i := 16 + 8 * n) (by omega)]
    simp only [recs, List.flatMap_append, List.flatMap_cons, List.flatMap_nil, List.append_nil, List.append_assoc]
    rw [wrap_forth (wordN_word hb _), show 16 + 8 * n + 8 = 16 + 8 * (n + 1) from by omega]
theorem recN_ok {b : List Int} {n : Nat} (hn : n ≤ 256) : RecOk (recN b n) := ⟨by rw [recN_len]; exact hn, fun x hx => by
  obtain ⟨i, _, rfl⟩ := List.mem_map.1 hx
  rw [IntKind.wrap_i64]
  omega⟩
theorem good_split {b : List Int} {s : Int} (hb : Bytes8 b) (h : ¬ badN b s) : RecOk (nextL b s) ∧ b = encF s (nextL b s) ++ nextR b s ∧ nextS b s = tagF s (nextL b s) := by
  have h' := h
  unfold badN at h'
  simp only [not_or, Nat.not_lt, ne_eq, Decidable.not_not] at h'
  obtain ⟨q1, q2, q3, q4, q5⟩ := h'
  rw [nextL_ok h, nextR_ok h, nextS_ok h]
  refine ⟨recN_ok q2, ?_, q5⟩
  have e0 := word_split hb (i := 0) (by omega)
  have e1 := word_split hb (i := 8) (by omega)
  have e2 := recs_split hb (wordN b 0) (by omega)
  have e3 := word_split hb (i := 16 + 8 * wordN b 0) (by omega)
  rw [List.drop_zero] at e0
  conv => lhs; rw [e0, show 0 + 8 = 8 from rfl, e1, show 8 + 8 = 16 from rfl, e2, e3]
  rw [encF_eq, recN_len, ← q4, ← q5, show 16 + 8 * wordN b 0 + 8 = 24 + 8 * wordN b 0 from by omega]
  simp
theorem read_split : ∀ (f : Nat) (b : List Int) (s : Int), b.length ≤ f → Bytes8 b → AllOk (readF b s).1 ∧ b = encs s (readF b s).1 ++ (readF b s).2.1 ∧ (readF b s).2.2 = sealF s (readF b s).1 ∧ badN (readF b s).2.1 (readF b s).2.2
  | f, b, s, hf, hb => by
    by_cases h : badN b s
    · rw [readF_bad h]
      exact ⟨fun r hr => by simp at hr, rfl, rfl, h⟩
    · obtain ⟨g1, g2, g3⟩ := good_split hb h
      have hlt := nextR_lt h
      match f with
      | 0 => omega
      | f + 1 =>
        obtain ⟨i1, i2, i3, i4⟩ := read_split f (nextR b s) (nextS b s) (by omega) (hb.nextR s)
        rw [readF_ok h]
        refine ⟨fun r hr => ?_, ?_, ?_, i4⟩
        · rcases List.mem_cons.1 hr with rfl | hr
          · exact g1
          · exact i1 r hr
        · simp only [encs]
          rw [List.append_assoc, ← g3, ← i2]
          exact g2
        · simp only [sealF]
          rw [← g3]
          exact i3

/-! For the walks. -/
theorem bool3 (a b : Bool) : a = false ∨ (a = true ∧ b = false) ∨ (a = true ∧ b = true) := by cases a <;> cases b <;> simp
theorem tmodN (a b : Nat) : Int.tmod (a : Int) (b : Int) = ((a % b : Nat) : Int) := (Int.ofNat_tmod a b).symm
theorem RecsOk.take {l : List (List Int)} (h : RecsOk l) (k : Nat) : RecsOk (l.take k) := ⟨by have := h.1; rw [List.length_take]; omega, fun r hr => h.2 r (List.mem_of_mem_take hr)⟩
theorem RecsOk.drop {l : List (List Int)} (h : RecsOk l) (k : Nat) : RecsOk (l.drop k) := ⟨by have := h.1; rw [List.length_drop]; omega, fun r hr => h.2 r (List.mem_of_mem_drop hr)⟩
theorem cutF_nat {b : List Int} {c : Nat} (h : c ≤ b.length) : cutF b (c : Int) = b.take c := by
  unfold cutF cutN
  rw [Int.toNat_natCast, Nat.min_eq_left h]
def xorB (a b : Int) : Int := IntKind.wrap .u8 ((BitVec.ofInt (IntKind.u8).bits a ^^^ BitVec.ofInt (IntKind.u8).bits b).toNat : Int)
theorem xorB_odd {a b : Int} (ha : 0 ≤ a ∧ a < 256) (hb : 0 < b ∧ b < 256) : xorB a b ≠ a ∧ 0 ≤ xorB a b ∧ xorB a b < 256 := by
  have e : xorB a b = ((BitVec.ofInt 8 a ^^^ BitVec.ofInt 8 b).toNat : Int) := by
    have := (BitVec.ofInt 8 a ^^^ BitVec.ofInt 8 b).isLt
    show IntKind.wrap .u8 ((BitVec.ofInt 8 a ^^^ BitVec.ofInt 8 b).toNat : Int) = _
    rw [IntKind.wrap_u8']
    omega
  have hlt := (BitVec.ofInt 8 a ^^^ BitVec.ofInt 8 b).isLt
  refine ⟨fun h => ?_, by omega, by omega⟩
  rw [e] at h
  have ea : a = ((BitVec.ofInt 8 a).toNat : Int) := by rw [BitVec.toNat_ofInt]; omega
  have e2 : BitVec.ofInt 8 a ^^^ BitVec.ofInt 8 b = BitVec.ofInt 8 a := BitVec.eq_of_toNat_eq (by omega)
  have e3 : BitVec.ofInt 8 a ^^^ (BitVec.ofInt 8 a ^^^ BitVec.ofInt 8 b) = BitVec.ofInt 8 a ^^^ BitVec.ofInt 8 a := by rw [e2]
  rw [← BitVec.xor_assoc, BitVec.xor_self, BitVec.zero_xor] at e3
  have e4 := congrArg BitVec.toNat e3
  rw [BitVec.toNat_ofInt] at e4
  simp at e4
  omega
/-- Records are put, one after the other. -/
def putsF (b : List Int) (m : List (List Int)) : Nat → List Int
  | 0 => b
  | k + 1 => jputJ (putsF b m k) (m.getD k [])
theorem putsF_8 {b : List Int} (hb : Bytes8 b) (m : List (List Int)) : ∀ k, Bytes8 (putsF b m k)
  | 0 => hb
  | k + 1 => jputJ_8 (putsF_8 hb m k) _
theorem putsF_len {b : List Int} (hb : b.length ≤ 65536) (m : List (List Int)) : ∀ k, (putsF b m k).length ≤ 65536
  | 0 => hb
  | k + 1 => jputJ_len _ _
theorem putsF_encs {a m : List (List Int)} (ha : AllOk a) (hm : AllOk m) (hl : lenR a + lenR m ≤ 65536) : ∀ k, k ≤ m.length → putsF (encs 0 a) m k = encs 0 (a ++ m.take k)
  | 0, _ => by simp [putsF]
  | k + 1, hk => by
    have hk' : k < m.length := hk
    have e : m.getD k [] = m[k] := by simp [List.getD, List.getElem?_eq_getElem hk']
    have h3 := lenR_take_succ hk'
    have h4 := lenR_take_le m (k + 1)
    have h5 := lenR_append a (m.take k)
    rw [e] at h3
    rw [putsF, putsF_encs ha hm hl k (by omega), e, (put_encs (ha.append (hm.take k)) (hm _ (List.getElem_mem hk')).1 (by omega)).1, List.take_succ_eq_append_getElem hk', List.append_assoc]
theorem put_torn {b : List Int} (h : 0 < (readF b 0).2.1.length) : jputE b [] = 60 := by
  unfold jputE
  rw [if_neg (by simp), if_pos h]
theorem put_done {b : List Int} (h : (readF b 0).2.1.length = 0) (hl : b.length ≤ 65500) : jputE b [] = 0 := by
  unfold jputE
  rw [if_neg (by simp), if_neg (by omega), if_neg (by simp; omega)]
theorem torn_yes {b : List Int} (h : 0 < (readF b 0).2.1.length) : tornF b = 60 := if_pos h
theorem torn_no {b : List Int} (h : (readF b 0).2.1.length = 0) : tornF b = 0 := if_neg (by omega)
theorem torn_zero (b : List Int) : ((tornF b == 0) != ((((readF b 0).2.1.length : Nat) : Int) == 0)) = false := by
  rcases Nat.eq_zero_or_pos (readF b 0).2.1.length with hz | hz
  · rw [torn_no hz, hz]; rfl
  · rw [torn_yes hz, beq_eq_false_iff_ne.2 (show (((readF b 0).2.1.length : Nat) : Int) ≠ 0 from by omega)]; rfl
theorem whole_eq {b : List Int} (hb : Bytes8 b) : wholeF b = encs 0 (readF b 0).1 := by
  obtain ⟨_, u2, _, _⟩ := read_split b.length b 0 (Nat.le_refl _) hb
  have hl := congrArg List.length u2
  rw [List.length_append] at hl
  have h2 : b.length - (readF b 0).2.1.length = (encs 0 (readF b 0).1).length := by omega
  unfold wholeF
  rw [h2]
  conv => lhs; arg 2; rw [u2]
  exact List.take_left
theorem read_good {b : List Int} (hb : Bytes8 b) : AllOk (readF b 0).1 := (read_split b.length b 0 (Nat.le_refl _) hb).1
theorem read_len {b : List Int} (hb : Bytes8 b) : (wholeF b).length + (readF b 0).2.1.length = b.length := by
  obtain ⟨_, u2, _, _⟩ := read_split b.length b 0 (Nat.le_refl _) hb
  have hl := congrArg List.length u2
  rw [List.length_append] at hl
  rw [whole_eq hb]
  omega
theorem read_whole {b : List Int} (hb : Bytes8 b) : readF (wholeF b) 0 = ((readF b 0).1, [], sealF 0 (readF b 0).1) := by
  rw [whole_eq hb, read_all _ _ (read_good hb)]
theorem lenR_ge : ∀ (l : List (List Int)), l.length ≤ lenR l ∧ ∀ r ∈ l, r.length ≤ lenR l
  | [] => ⟨by simp [lenR], fun r hr => by simp at hr⟩
  | r :: l => by
    obtain ⟨h1, h2⟩ := lenR_ge l
    refine ⟨by simp only [lenR, List.length_cons]; omega, fun q hq => ?_⟩
    rcases List.mem_cons.1 hq with rfl | hq
    · simp only [lenR]; omega
    · have := h2 q hq
      simp only [lenR]; omega
theorem recs_of_len {l : List (List Int)} (h : lenR l ≤ 137438953472) : RecsOk l := ⟨by have := (lenR_ge l).1; omega, fun r hr => by have := (lenR_ge l).2 r hr; omega⟩
theorem jr_inj {l m : List (List Int)} (hl : SmallOk l) (hm : SmallOk m) : (jr l l.length = jr m m.length) ↔ l = m := by
  refine ⟨fun h => ?_, fun h => by rw [h]⟩
  have h1 := read_jr hl.all (by have := hl.lenR; omega)
  have h2 := read_jr hm.all (by have := hm.lenR; omega)
  rw [h] at h1
  rw [h1] at h2
  exact congrArg Prod.fst h2

end Go.Proofs.Ytjmfaebimgnblaa
