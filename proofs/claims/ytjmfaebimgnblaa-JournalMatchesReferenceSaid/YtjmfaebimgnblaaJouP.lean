/-
  Journals as functions on numbers: words in bytes. No program in sight.
-/
import Derived.Test.YtjmfaebimgnblaaPureF
namespace Go.Proofs.Ytjmfaebimgnblaa
open Go.RowKit
set_option linter.unusedVariables false
set_option linter.unusedSimpArgs false

abbrev Bytes8 (b : List Int) : Prop := ∀ x ∈ b, 0 ≤ x ∧ x < 256

theorem leF_append (l : List Int) (x : Int) : leF (l ++ [x]) = leF l + 256 ^ l.length * x := by
  induction l with
  | nil => simp [leF]
  | cons y l ih =>
    simp only [List.cons_append, leF, ih, List.length_cons]
    rw [Int.pow_succ]
    generalize (256 : Int) ^ l.length = p
    rw [Int.mul_add, Int.add_assoc, Int.mul_comm p 256, Int.mul_assoc]
theorem leF_bound : ∀ (b : List Int), Bytes8 b → 0 ≤ leF b ∧ leF b < 256 ^ b.length
  | [], _ => by simp [leF]
  | x :: b, h => by
    obtain ⟨h1, h2⟩ := leF_bound b (fun y hy => h y (List.mem_cons_of_mem _ hy))
    obtain ⟨q1, q2⟩ := h x (List.mem_cons_self ..)
    simp only [leF, List.length_cons, Int.pow_succ]
    generalize (256 : Int) ^ b.length = p at *
    omega

theorem Bytes8.drop {b : List Int} (h : Bytes8 b) (n : Nat) : Bytes8 (b.drop n) := fun x hx => h x (List.mem_of_mem_drop hx)
theorem Bytes8.take {b : List Int} (h : Bytes8 b) (n : Nat) : Bytes8 (b.take n) := fun x hx => h x (List.mem_of_mem_take hx)
theorem Bytes8.getD {b : List Int} (h : Bytes8 b) (n : Nat) : 0 ≤ b.getD n 0 ∧ b.getD n 0 < 256 := by
  unfold List.getD
  cases hg : b[n]? with
  | none => simp
  | some x => exact h x (List.mem_of_getElem? hg)

/-- The number in the first k of the bytes from 'at' on. -/
def partN (b : List Int) (i k : Nat) : Nat := (leF ((b.drop i).take k)).toNat
def wordN (b : List Int) (i : Nat) : Nat := partN b i 8

theorem partN_zero (b : List Int) (i : Nat) : partN b i 0 = 0 := by simp [partN, leF]
theorem partN_int {b : List Int} (hb : Bytes8 b) (i k : Nat) : (partN b i k : Int) = leF ((b.drop i).take k) := by
  have := (leF_bound _ ((hb.drop i).take k)).1
  unfold partN
  omega
theorem partN_lt {b : List Int} (hb : Bytes8 b) (i k : Nat) : partN b i k < 256 ^ k := by
  have h := (leF_bound _ ((hb.drop i).take k)).2
  rw [← partN_int hb] at h
  have hl : ((b.drop i).take k).length ≤ k := by rw [List.length_take]; omega
  have h2 : 256 ^ ((b.drop i).take k).length ≤ 256 ^ k := Nat.pow_le_pow_right (by omega) hl
  have h3 : ((256 : Int) ^ ((b.drop i).take k).length) = ((256 ^ ((b.drop i).take k).length : Nat) : Int) := by simp
  rw [h3] at h
  omega
theorem partN_succ {b : List Int} (hb : Bytes8 b) {i k : Nat} (h : i + k < b.length) : partN b i (k + 1) = partN b i k + (b.getD (i + k) 0).toNat * 256 ^ k := by
  have hk : k < (b.drop i).length := by rw [List.length_drop]; omega
  have e : (b.drop i).take (k + 1) = (b.drop i).take k ++ [b.getD (i + k) 0] := by
    rw [List.take_succ_eq_append_getElem hk]
    congr 2
    rw [List.getElem_drop]
    simp [List.getD, h]
  have h1 := partN_int hb i (k + 1)
  rw [e, leF_append, ← partN_int hb] at h1
  have hl : ((b.drop i).take k).length = k := by rw [List.length_take]; omega
  rw [hl] at h1
  have hx := hb.getD (i + k)
  have h3 : ((256 : Int) ^ k) = ((256 ^ k : Nat) : Int) := by simp
  rw [h3] at h1
  have : b.getD (i + k) 0 = ((b.getD (i + k) 0).toNat : Int) := by omega
  rw [this] at h1
  rw [← Int.natCast_mul, ← Int.natCast_add] at h1
  have := Int.ofNat.inj h1
  rw [this, Nat.mul_comm]
theorem wordN_lt {b : List Int} (hb : Bytes8 b) (i : Nat) : wordN b i < 18446744073709551616 := partN_lt hb i 8

/-- A byte is put above what is there. -/
theorem or_byte {p k : Nat} {x : Int} (hp : p < 256 ^ k) (hk : k < 8) (h0 : 0 ≤ x) (h1 : x < 256) :
    IntKind.wrap .u64 ((BitVec.ofInt IntKind.u64.bits (p : Int) ||| BitVec.ofInt IntKind.u64.bits (IntKind.wrap .u64 (x * 2 ^ min (8 * k) 64))).toNat : Int) = ((p + x.toNat * 256 ^ k : Nat) : Int) := by
  obtain ⟨n, rfl⟩ := Int.eq_ofNat_of_zero_le h0
  have hn : n < 256 := by omega
  have hmin : min (8 * k) 64 = 8 * k := by omega
  have e256 : (256 : Nat) ^ k = 2 ^ (8 * k) := by rw [Nat.pow_mul]
  rw [e256] at hp ⊢
  have hle : 2 ^ (8 * k) * 256 ≤ 2 ^ 64 := by
    rw [show (256 : Nat) = 2 ^ 8 from rfl, ← Nat.pow_add]
    exact Nat.pow_le_pow_right (by omega) (by omega)
  have hmul : n * 2 ^ (8 * k) + 2 ^ (8 * k) ≤ 2 ^ 64 := by
    have : n * 2 ^ (8 * k) + 2 ^ (8 * k) = (n + 1) * 2 ^ (8 * k) := by rw [Nat.add_mul, Nat.one_mul]
    rw [this]
    calc (n + 1) * 2 ^ (8 * k) ≤ 256 * 2 ^ (8 * k) := Nat.mul_le_mul_right _ (by omega)
      _ ≤ 2 ^ 64 := by rw [Nat.mul_comm]; exact hle
  rw [hmin]
  have hc : (((n : Nat) : Int) * 2 ^ (8 * k) : Int) = ((n * 2 ^ (8 * k) : Nat) : Int) := by simp
  rw [hc]
  have w1 : IntKind.wrap .u64 ((n * 2 ^ (8 * k) : Nat) : Int) = ((n * 2 ^ (8 * k) : Nat) : Int) := by
    rw [IntKind.wrap_u64]
    omega
  rw [w1]
  have t1 : (BitVec.ofInt IntKind.u64.bits ((p : Nat) : Int)).toNat = p := by
    show (BitVec.ofInt 64 ((p : Nat) : Int)).toNat = p
    rw [BitVec.ofInt_natCast, BitVec.toNat_ofNat]
    exact Nat.mod_eq_of_lt (by omega)
  have t2 : (BitVec.ofInt IntKind.u64.bits ((n * 2 ^ (8 * k) : Nat) : Int)).toNat = n * 2 ^ (8 * k) := by
    show (BitVec.ofInt 64 ((n * 2 ^ (8 * k) : Nat) : Int)).toNat = n * 2 ^ (8 * k)
    rw [BitVec.ofInt_natCast, BitVec.toNat_ofNat]
    exact Nat.mod_eq_of_lt (by omega)
  rw [BitVec.toNat_or, t1, t2]
  have hor : p ||| n * 2 ^ (8 * k) = p + n * 2 ^ (8 * k) := by
    rw [Nat.or_comm, Nat.mul_comm, ← Nat.two_pow_add_eq_or_of_lt hp, Nat.add_comm]
  rw [hor, IntKind.wrap_u64]
  simp only [Int.ofNat_eq_natCast, Int.toNat_natCast]
  omega

/-- The record that begins a byte sequence; the seal ahead of it. -/
def recN (b : List Int) (n : Nat) : List Int := (List.range n).map fun i => IntKind.i64.wrap (wordN b (16 + 8 * i) : Int)
theorem recN_len (b : List Int) (n : Nat) : (recN b n).length = n := by simp [recN]
def badN (b : List Int) (s : Int) : Prop := b.length < 24 ∨ 256 < wordN b 0 ∨ b.length < 24 + 8 * wordN b 0 ∨ (wordN b 8 : Int) ≠ tagF s [(wordN b 0 : Int)] ∨ (wordN b (16 + 8 * wordN b 0) : Int) ≠ tagF s (recN b (wordN b 0))
instance (b : List Int) (s : Int) : Decidable (badN b s) := by unfold badN; infer_instance
def nextB (b : List Int) (s : Int) : Bool := decide (¬ badN b s)
def nextL (b : List Int) (s : Int) : List Int := if badN b s then [] else recN b (wordN b 0)
def nextR (b : List Int) (s : Int) : List Int := if badN b s then b else b.drop (24 + 8 * wordN b 0)
def nextS (b : List Int) (s : Int) : Int := if badN b s then s else wordN b (16 + 8 * wordN b 0)

theorem nextL_bad {b : List Int} {s : Int} (h : badN b s) : nextL b s = [] := if_pos h
theorem nextL_ok {b : List Int} {s : Int} (h : ¬ badN b s) : nextL b s = recN b (wordN b 0) := if_neg h
theorem nextB_bad {b : List Int} {s : Int} (h : badN b s) : nextB b s = false := decide_eq_false (fun k => k h)
theorem nextB_ok {b : List Int} {s : Int} (h : ¬ badN b s) : nextB b s = true := decide_eq_true h
theorem nextR_bad {b : List Int} {s : Int} (h : badN b s) : nextR b s = b := if_pos h
theorem nextR_ok {b : List Int} {s : Int} (h : ¬ badN b s) : nextR b s = b.drop (24 + 8 * wordN b 0) := if_neg h
theorem nextS_bad {b : List Int} {s : Int} (h : badN b s) : nextS b s = s := if_pos h
theorem nextS_ok {b : List Int} {s : Int} (h : ¬ badN b s) : nextS b s = wordN b (16 + 8 * wordN b 0) := if_neg h
theorem next_cases (b : List Int) (_s : Int) : 256 < wordN b 0 ∨ (wordN b 0 ≤ 256 ∧ b.length < 24 + 8 * wordN b 0) ∨ (wordN b 0 ≤ 256 ∧ 24 + 8 * wordN b 0 ≤ b.length) := by omega

/-- The first k elements of a record are read. -/
def recK (b : List Int) (n k : Nat) : List Int := recN b k ++ List.replicate (n - k) 0
theorem recK_zero (b : List Int) (n : Nat) : recK b n 0 = List.replicate n 0 := by simp [recK, recN]
theorem recK_full (b : List Int) (n : Nat) : recK b n n = recN b n := by simp [recK]
theorem recK_len (b : List Int) (n k : Nat) (h : k ≤ n) : (recK b n k).length = n := by simp [recK, recN]; omega
theorem recK_set (b : List Int) (n k : Nat) (h : k < n) : (recK b n k).set k (IntKind.i64.wrap (wordN b (16 + 8 * k) : Int)) = recK b n (k + 1) := by
  have e : List.replicate (n - k) (0 : Int) = 0 :: List.replicate (n - (k + 1)) 0 := by
    rw [show n - k = (n - (k + 1)) + 1 from by omega, List.replicate_succ]
  have e2 : recN b (k + 1) = recN b k ++ [IntKind.i64.wrap (wordN b (16 + 8 * k) : Int)] := by
    simp [recN, List.range_succ]
  unfold recK
  rw [e, e2, List.set_append, if_neg (by rw [recN_len]; omega), recN_len, Nat.sub_self, List.set_cons_zero, List.append_assoc]
  rfl
theorem Bytes8.nextR {b : List Int} (h : Bytes8 b) (s : Int) : Bytes8 (nextR b s) := by
  unfold Proofs.Ytjmfaebimgnblaa.nextR
  split
  · exact h
  · exact h.drop _
theorem nextR_len (b : List Int) (s : Int) : (nextR b s).length ≤ b.length := by
  unfold nextR
  split <;> simp
theorem nextR_lt {b : List Int} {s : Int} (h : ¬ badN b s) : (nextR b s).length + 24 ≤ b.length := by
  rw [nextR_ok h, List.length_drop]
  have h1 : ¬ b.length < 24 + 8 * wordN b 0 := fun hh => h (.inr (.inr (.inl hh)))
  omega
theorem nextB_true {b : List Int} {s : Int} : nextB b s = true ↔ ¬ badN b s := by simp [nextB]
theorem nextB_false {b : List Int} {s : Int} : nextB b s = false ↔ badN b s := by simp [nextB]

/-- All records, the rest, the last seal. -/
def readN : Nat → List Int → Int → List (List Int) × List Int × Int
  | 0, b, s => ([], b, s)
  | f + 1, b, s => if badN b s then ([], b, s) else ((nextL b s) :: (readN f (nextR b s) (nextS b s)).1, (readN f (nextR b s) (nextS b s)).2)
def readF (b : List Int) (s : Int) : List (List Int) × List Int × Int := readN b.length b s
theorem readN_more : ∀ (f g : Nat) (b : List Int) (s : Int), b.length ≤ f → b.length ≤ g → readN f b s = readN g b s
  | 0, 0, _, _, _, _ => rfl
  | 0, g + 1, b, s, h, _ => by
    have : badN b s := .inl (by omega)
    simp [readN, this]
  | f + 1, 0, b, s, _, h => by
    have : badN b s := .inl (by omega)
    simp [readN, this]
  | f + 1, g + 1, b, s, h, k => by
    unfold readN
    split
    · rfl
    · rename_i hb
      have := nextR_lt hb
      rw [readN_more f g (nextR b s) (nextS b s) (by omega) (by omega)]
theorem readF_bad {b : List Int} {s : Int} (h : badN b s) : readF b s = ([], b, s) := by
  unfold readF
  cases b.length <;> simp [readN, h]
theorem readF_ok {b : List Int} {s : Int} (h : ¬ badN b s) : readF b s = (nextL b s :: (readF (nextR b s) (nextS b s)).1, (readF (nextR b s) (nextS b s)).2) := by
  have hlt := nextR_lt h
  have e1 : readF b s = readN ((b.length - 1) + 1) b s := readN_more _ _ b s (Nat.le_refl _) (by omega)
  have e2 : readF (nextR b s) (nextS b s) = readN (b.length - 1) (nextR b s) (nextS b s) := readN_more _ _ _ _ (Nat.le_refl _) (by omega)
  rw [e1, e2]
  exact if_neg h

/-- The length of the complete part. -/
def wholeF (b : List Int) : List Int := b.take (b.length - (readF b 0).2.1.length)

def tornF (b : List Int) : Int := if 0 < (readF b 0).2.1.length then 60 else 0

/-- The bytes of a number. -/
def byteN (n : Int) (k : Nat) : Int := n / 256 ^ k % 256
def bytes8 (n : Int) : List Int := (List.range 8).map (byteN n)
def bytesK (n : Int) (k : Nat) : List Int := (List.range k).map (byteN n)
theorem bytesK_zero (n : Int) : bytesK n 0 = [] := rfl
theorem bytesK_succ (n : Int) (k : Nat) : bytesK n (k + 1) = bytesK n k ++ [byteN n k] := by simp [bytesK, List.range_succ]
theorem bytesK_len (n : Int) (k : Nat) : (bytesK n k).length = k := by simp [bytesK]
theorem bytes8_len (n : Int) : (bytes8 n).length = 8 := by simp [bytes8]
theorem byteN_bound (n : Int) (k : Nat) : 0 ≤ byteN n k ∧ byteN n k < 256 := by unfold byteN; omega
theorem byte_of {n : Int} {k : Nat} (h0 : 0 ≤ n) (h : n < 18446744073709551616) (hk : k < 8) : IntKind.wrap .u8 (Int.fdiv n (2 ^ min (8 * k) 64)) = byteN n k := by
  have hmin : min (8 * k) 64 = 8 * k := by omega
  rw [hmin, IntKind.wrap_u8', Int.fdiv_eq_ediv_of_nonneg _ (Int.le_of_lt (Int.pow_pos (by decide)))]
  unfold byteN
  rw [show (256 : Int) ^ k = 2 ^ (8 * k) from by rw [Int.pow_mul]; rfl]

/-- The number in the last k of eight bytes. -/
def topN (b : List Int) (i k : Nat) : Nat := partN b (i + (8 - k)) k
theorem topN_zero (b : List Int) (i : Nat) : topN b i 0 = 0 := partN_zero _ _
theorem topN_full (b : List Int) (i : Nat) : topN b i 8 = wordN b i := rfl
theorem topN_lt {b : List Int} (hb : Bytes8 b) (i k : Nat) : topN b i k < 256 ^ k := partN_lt hb _ _
theorem topN_succ {b : List Int} (hb : Bytes8 b) {i k : Nat} (hk : k < 8) (h : i + 8 ≤ b.length) : topN b i (k + 1) = (b.getD (i + (7 - k)) 0).toNat + 256 * topN b i k := by
  have hi : i + (8 - (k + 1)) = i + (7 - k) := by omega
  have hi2 : i + (8 - k) = i + (7 - k) + 1 := by omega
  have hlt : i + (7 - k) < b.length := by omega
  have e : (b.drop (i + (7 - k))).take (k + 1) = b.getD (i + (7 - k)) 0 :: (b.drop (i + (7 - k) + 1)).take k := by
    rw [List.drop_eq_getElem_cons hlt, List.take_succ_cons]
    simp [List.getD, hlt]
  have h1 := partN_int hb (i + (7 - k)) (k + 1)
  rw [e] at h1
  simp only [leF] at h1
  rw [← partN_int hb] at h1
  unfold topN
  rw [hi, hi2]
  have := (hb.getD (i + (7 - k))).1
  omega
theorem or_low {p : Nat} {x : Int} (hp : p < 256 ^ 7) (h0 : 0 ≤ x) (h1 : x < 256) :
    IntKind.wrap .u64 ((BitVec.ofInt IntKind.u64.bits (IntKind.wrap .u64 ((p : Int) * 2 ^ min 8 64)) ||| BitVec.ofInt IntKind.u64.bits x).toNat : Int) = ((x.toNat + 256 * p : Nat) : Int) := by
  obtain ⟨n, rfl⟩ := Int.eq_ofNat_of_zero_le h0
  have hn : n < 2 ^ 8 := by omega
  have hp' : p * 256 < 2 ^ 64 := by omega
  have e : ((p : Int) * 2 ^ min 8 64) = ((p * 256 : Nat) : Int) := by
    rw [show min 8 64 = 8 from rfl]
    omega
  rw [e]
  have w1 : IntKind.wrap .u64 ((p * 256 : Nat) : Int) = ((p * 256 : Nat) : Int) := by rw [IntKind.wrap_u64]; omega
  rw [w1]
  have t1 : (BitVec.ofInt IntKind.u64.bits ((p * 256 : Nat) : Int)).toNat = p * 256 := by
    show (BitVec.ofInt 64 ((p * 256 : Nat) : Int)).toNat = p * 256
    rw [BitVec.ofInt_natCast, BitVec.toNat_ofNat]
    exact Nat.mod_eq_of_lt hp'
  have t2 : (BitVec.ofInt IntKind.u64.bits ((n : Nat) : Int)).toNat = n := by
    show (BitVec.ofInt 64 ((n : Nat) : Int)).toNat = n
    rw [BitVec.ofInt_natCast, BitVec.toNat_ofNat]
    exact Nat.mod_eq_of_lt (by omega)
  have t2' : (BitVec.ofInt IntKind.u64.bits (Int.ofNat n)).toNat = n := t2
  rw [BitVec.toNat_or, t1]
  first | rw [t2] | rw [t2']
  have hor : p * 256 ||| n = n + 256 * p := by
    rw [Nat.mul_comm p 256, show (256 : Nat) * p = 2 ^ 8 * p from rfl, ← Nat.two_pow_add_eq_or_of_lt hn, Nat.add_comm]
  rw [hor, IntKind.wrap_u64]
  simp only [Int.ofNat_eq_natCast, Int.toNat_natCast]
  omega

theorem same_step {α : Type} [DecidableEq α] {a b : List α} {d : α} {k : Nat} (hl : a.length = b.length) (hk : k < a.length) (h : a.take k = b.take k) (hx : a.getD k d = b.getD k d) : a.take (k + 1) = b.take (k + 1) := by
  rw [List.take_succ_eq_append_getElem hk, List.take_succ_eq_append_getElem (hl ▸ hk), h]
  simp only [List.getD, List.getElem?_eq_getElem hk, List.getElem?_eq_getElem (hl ▸ hk), Option.getD_some] at hx
  rw [hx]
theorem same_ne {α : Type} {a b : List α} {d : α} {k : Nat} (hx : a.getD k d ≠ b.getD k d) : a ≠ b := fun e => hx (by rw [e])
theorem same_end {α : Type} {a b : List α} {k : Nat} (hl : a.length = b.length) (hk : a.length ≤ k) (h : a.take k = b.take k) : a = b := by
  rwa [List.take_of_length_le hk, List.take_of_length_le (by omega)] at h

end Go.Proofs.Ytjmfaebimgnblaa
