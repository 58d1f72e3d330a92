/-
  Circuits, plain data: what firing does, channel by channel.
-/
import Derived.Test.YtgmpoenfoacofaaGreatQNeA
namespace Go.Proofs.YtgmpoenfoacofaaGreat
open Go.RowKit
set_option linter.unusedVariables false
set_option linter.unusedSimpArgs false
structure Ch where
 name : ByteArray
 w : Int
 cap : Int
 frm : Int
 dst : Int
abbrev aX : Ch := ⟨e0, 0, 0, 0, 0⟩
structure Ci where
 procs : List Pr
 chans : List Ch
structure Ns where
 procs : List Ps
 chans : List (List Int)
def ez (c : Ch) : List V := [.str c.name, .int .i64 c.w, .int .i64 c.cap, .int .i64 c.frm, .int .i64 c.dst]
abbrev EG : Ns := ⟨[], []⟩
abbrev bH (c : Ci) (i : Nat) : Pr := c.procs.getD i ax
abbrev dt (c : Ci) (n : Nat) : Ch := c.chans.getD n aX
abbrev zg (s : Ns) (i : Nat) : Ps := s.procs.getD i ba
abbrev fh (s : Ns) (n : Nat) : List Int := s.chans.getD n []
abbrev wi (p : Pr) (j : Nat) : Nat := (lz p j).chan.toNat
abbrev v4 (p : Pr) (j : Nat) : Nat := (sB p j).chan.toNat
structure bo (c : Ci) : Prop where
 n1 : 1 ≤ c.procs.length
 nl : c.procs.length ≤ 100
 cl : c.chans.length ≤ 100
 pr : ∀ i, i < c.procs.length → gm (bH c i)
 tk : ∀ i, i < c.procs.length → ∀ j, j < (bH c i).takes.length → 0 ≤ (lz (bH c i) j).chan ∧ (lz (bH c i) j).chan < c.chans.length ∧ (dt c (wi (bH c i) j)).w = (lz (bH c i) j).w ∧ (dt c (wi (bH c i) j)).dst = i
 pt : ∀ i, i < c.procs.length → ∀ j, j < (bH c i).puts.length → 0 ≤ (sB (bH c i) j).chan ∧ (sB (bH c i) j).chan < c.chans.length ∧ (dt c (v4 (bH c i) j)).w = (sB (bH c i) j).w ∧ (dt c (v4 (bH c i) j)).frm = i
 td : ∀ i, i < c.procs.length → ∀ j k, j < (bH c i).takes.length → k < (bH c i).takes.length → wi (bH c i) j = wi (bH c i) k → j = k
 pd : ∀ i, i < c.procs.length → ∀ j k, j < (bH c i).puts.length → k < (bH c i).puts.length → v4 (bH c i) j = v4 (bH c i) k → j = k
 cw : ∀ n, n < c.chans.length → ao (dt c n).w = true
 cp : ∀ n, n < c.chans.length → 0 ≤ (dt c n).cap
def cA (l : List Int) (w : Int) : Bool := ct (fun i => cT (l.getD i 0) w) l.length
def iP (c : Ci) (s : Ns) (n : Nat) : Bool := cA (fh s n) (dt c n).w && (!(decide (0 ≤ (dt c n).frm) && decide (0 ≤ (dt c n).dst)) || decide (((fh s n).length : Int) ≤ (dt c n).cap))
def bQ (c : Ci) (s : Ns) : Bool := decide (s.procs.length = c.procs.length) && decide (s.chans.length = c.chans.length) && ct (fun i => bW (bH c i) (zg s i)) c.procs.length && ct (iP c s) c.chans.length
structure bG (c : Ci) (s : Ns) : Prop where
 pl : s.procs.length = c.procs.length
 cl : s.chans.length = c.chans.length
 pv : ∀ i, i < c.procs.length → oZ (bH c i) (zg s i)
 cv : ∀ n, n < c.chans.length → ∀ i, i < (fh s n).length → dq ((fh s n).getD i 0) (dt c n).w
 cc : ∀ n, n < c.chans.length → 0 ≤ (dt c n).frm → 0 ≤ (dt c n).dst → ((fh s n).length : Int) ≤ (dt c n).cap
theorem u6 {l : List Int} {w : Int} : cA l w = true ↔ ∀ i, i < l.length → dq (l.getD i 0) w := by
 unfold cA
 simp only [bi, z4]
theorem fR {c : Ci} {s : Ns} : bQ c s = true ↔ bG c s := by
 unfold bQ iP
 simp only [Bool.and_eq_true, decide_eq_true_eq, bi, EE, u6, Bool.or_eq_true, Bool.not_eq_true', Bool.and_eq_false_iff, decide_eq_false_iff_not]
 constructor
 ·rintro ⟨⟨⟨h1, h2⟩, h3⟩, h4⟩
  refine ⟨h1, h2, h3, fun n hn => (h4 n hn).1, fun n hn ha hb => ?_⟩
  rcases (h4 n hn).2 with (h | h) | h
  ·exact absurd ha h
  ·exact absurd hb h
  ·exact h
 ·intro h
  refine ⟨⟨⟨h.pl, h.cl⟩, h.pv⟩, fun n hn => ⟨h.cv n hn, ?_⟩⟩
  by_cases ha : 0 ≤ (dt c n).frm
  ·by_cases hb : 0 ≤ (dt c n).dst
   ·exact .inr (h.cc n hn ha hb)
   ·exact .inl (.inr hb)
  ·exact .inl (.inl ha)
def b3 (c : Ci) (s : Ns) (p j : Nat) : Hd := if 0 < (fh s (wi (bH c p) j)).length then ⟨true, (fh s (wi (bH c p) j)).getD 0 0⟩ else aW
def cC (c : Ci) (s : Ns) (p : Nat) : List Hd := tab (b3 c s p) (bH c p).takes.length
def b4 (c : Ci) (s : Ns) (p j : Nat) : Bool := decide ((dt c (v4 (bH c p) j)).dst = -1) || decide (((fh s (v4 (bH c p) j)).length : Int) < (dt c (v4 (bH c p) j)).cap)
def da (c : Ci) (s : Ns) (p : Nat) : List Bool := tab (b4 c s p) (bH c p).puts.length
def ab (c : Ci) (s : Ns) (p : Nat) : Fi := aM (bH c p) (zg s p) (cC c s p) (da c s p)
def hJ (c : Ci) (s : Ns) (p : Nat) : Bool := (ab c s p).fires
def iQ (c : Ci) (s : Ns) (p : Int) : Bool := decide (0 ≤ p) && (decide (p < c.procs.length) && hJ c s p.toNat)
theorem yx (c : Ci) (s : Ns) (p : Nat) : hJ c s p = fy (bH c p) (zg s p) (cC c s p) (da c s p) := Bz _ _ _ _
theorem qn {c : Ci} {s : Ns} (hc : bo c) (hs : bG c s) {p : Nat} (hp : p < c.procs.length) : z6 (bH c p) (cC c s p) where
 l := by rw [cC, aR]
 v := fun i hi hh => by
  rw [cC, bn hi] at hh ⊢
  unfold b3 at hh ⊢
  split
  ·rename_i h0
   obtain ⟨k1, k2, k3, k4⟩ := hc.tk p hp i hi
   have := hs.cv (wi (bH c p) i) (by show (lz (bH c p) i).chan.toNat < _; omega) 0 h0
   rw [k3] at this
   exact this
  ·rename_i h0; rw [if_neg h0] at hh; cases hh
def o7 (p : Pr) (f : Fi) : Nat → List Nat
 | 0 => []
 | k + 1 => o7 p f k ++ (if f.pops.getD k false = true then [wi p k] else [])
def o8 (p : Pr) (f : Fi) : Nat → List (Nat × Int)
 | 0 => []
 | k + 1 => o8 p f k ++ (if (f.puts.getD k aW).has = true then [(v4 p k, (f.puts.getD k aW).v)] else [])
def aD (c : Ci) (s : Ns) (w : Nat → Bool) (p : Nat) : Bool := w p && hJ c s p
def gu (c : Ci) (s : Ns) (w : Nat → Bool) : Nat → List Nat
 | 0 => []
 | p + 1 => gu c s w p ++ (if aD c s w p = true then o7 (bH c p) (ab c s p) (bH c p).takes.length else [])
def jG (c : Ci) (s : Ns) (w : Nat → Bool) : Nat → List (Nat × Int)
 | 0 => []
 | p + 1 => jG c s w p ++ (if aD c s w p = true then o8 (bH c p) (ab c s p) (bH c p).puts.length else [])
def bz (l : List (List Int)) (ev : List Nat) : List (List Int) := ev.foldl (fun l n => l.set n ((l.getD n []).drop 1)) l
def b8 (l : List (List Int)) (ev : List (Nat × Int)) : List (List Int) := ev.foldl (fun l e => l.set e.1 (l.getD e.1 [] ++ [e.2])) l
def de (l : List Int) (ev : List Nat) : List Int := ev.foldl (fun l n => l.set n 1) l
def cU (l : List (Option Int)) (ev : List (Nat × Int)) : List (Option Int) := ev.foldl (fun l e => l.set e.1 (some e.2)) l
def e7 (c : Ci) (s : Ns) (p n : Nat) : Bool := decide (n ∈ o7 (bH c p) (ab c s p) (bH c p).takes.length)
def s8 (c : Ci) (s : Ns) (p n : Nat) : List Int := ((o8 (bH c p) (ab c s p) (bH c p).puts.length).filter (fun e => e.1 == n)).map (·.2)
def iR (c : Ci) (n : Nat) : Nat := (dt c n).dst.toNat
def fA (c : Ci) (n : Nat) : Nat := (dt c n).frm.toNat
def cX (c : Ci) (s : Ns) (w : Nat → Bool) (n : Nat) : Nat := if aD c s w (iR c n) = true ∧ e7 c s (iR c n) n = true then 1 else 0
def cH (c : Ci) (s : Ns) (w : Nat → Bool) (n : Nat) : List Int := if aD c s w (fA c n) = true then s8 c s (fA c n) n else []
def cB (c : Ci) (s : Ns) (w : Nat → Bool) (n : Nat) : List Int := (fh s n).drop (cX c s w n) ++ cH c s w n
def bL (c : Ci) (s : Ns) (w : Nat → Bool) (p : Nat) : Ps := if aD c s w p = true then (ab c s p).s else zg s p
def a4 (c : Ci) (s : Ns) (w : Nat → Bool) : Ns := ⟨tab (bL c s w) c.procs.length, tab (cB c s w) c.chans.length⟩
theorem qo {p : Pr} {f : Fi} {n : Nat} : ∀ {k : Nat}, n ∈ o7 p f k → ∃ j, j < k ∧ f.pops.getD j false = true ∧ wi p j = n
 | 0, h => by cases h
 | k + 1, h => by
  rw [o7, List.mem_append] at h
  rcases h with h | h
  ·obtain ⟨j, h1, h2⟩ := qo h; exact ⟨j, by omega, h2⟩
  ·split at h
   ·rename_i hh; simp only [List.mem_singleton] at h; exact ⟨k, by omega, hh, h.symm⟩
   ·cases h
theorem qp {p : Pr} {f : Fi} {e : Nat × Int} : ∀ {k : Nat}, e ∈ o8 p f k → ∃ j, j < k ∧ (f.puts.getD j aW).has = true ∧ v4 p j = e.1 ∧ (f.puts.getD j aW).v = e.2
 | 0, h => by cases h
 | k + 1, h => by
  rw [o8, List.mem_append] at h
  rcases h with h | h
  ·obtain ⟨j, h1, h2⟩ := qp h; exact ⟨j, by omega, h2⟩
  ·split at h
   ·rename_i hh; simp only [List.mem_singleton] at h; subst h; exact ⟨k, by omega, hh, rfl, rfl⟩
   ·cases h
theorem ew (ev : List Nat) : ∀ (l : List (List Int)), (bz l ev).length = l.length := by
 induction ev with
 | nil => intro l; rfl
 | cons n r ih => intro l; show (bz _ r).length = _; rw [ih]; simp
theorem jm (ev : List (Nat × Int)) : ∀ (l : List (List Int)), (b8 l ev).length = l.length := by
 induction ev with
 | nil => intro l; rfl
 | cons n r ih => intro l; show (b8 _ r).length = _; rw [ih]; simp
theorem sF (ev : List Nat) : ∀ (l : List Int), (de l ev).length = l.length := by
 induction ev with
 | nil => intro l; rfl
 | cons n r ih => intro l; show (de _ r).length = _; rw [ih]; simp
theorem sG (ev : List (Nat × Int)) : ∀ (l : List (Option Int)), (cU l ev).length = l.length := by
 induction ev with
 | nil => intro l; rfl
 | cons n r ih => intro l; show (cU _ r).length = _; rw [ih]; simp
theorem yy (l : List (List Int)) (ev : List Nat) (n : Nat) : bz l (ev ++ [n]) = (bz l ev).set n (((bz l ev).getD n []).drop 1) := by simp [bz, List.foldl_append]
theorem yz (l : List (List Int)) (ev : List (Nat × Int)) (n : Nat) (v : Int) : b8 l (ev ++ [(n, v)]) = (b8 l ev).set n ((b8 l ev).getD n [] ++ [v]) := by simp [b8, List.foldl_append]
theorem yA (l : List Int) (ev : List Nat) (n : Nat) : de l (ev ++ [n]) = (de l ev).set n 1 := by simp [de, List.foldl_append]
theorem yB (l : List (Option Int)) (ev : List (Nat × Int)) (n : Nat) (v : Int) : cU l (ev ++ [(n, v)]) = (cU l ev).set n (some v) := by simp [cU, List.foldl_append]
theorem mb (ev : List Nat) : ∀ (l : List (List Int)) (n : Nat), n < l.length → (bz l ev).getD n [] = (l.getD n []).drop (ev.count n) := by
 induction ev with
 | nil => intro l n hn; simp [bz]
 | cons m r ih =>
  intro l n hn
  show (bz (l.set m _) r).getD n [] = _
  rw [ih _ n (by simpa using hn), List.count_cons]
  by_cases e : m = n
  ·subst e
   rw [ce hn, if_pos rfl, List.drop_drop]
   simp [Nat.add_comm]
  ·by_cases hm : m < l.length
   ·rw [ce hm, if_neg e]; simp [e]
   ·rw [List.set_eq_of_length_le (by omega)]; simp [e]
theorem sH (ev : List (Nat × Int)) : ∀ (l : List (List Int)) (n : Nat), n < l.length → (b8 l ev).getD n [] = l.getD n [] ++ (ev.filter (fun e => e.1 == n)).map (·.2) := by
 induction ev with
 | nil => intro l n hn; simp [b8]
 | cons m r ih =>
  intro l n hn
  show (b8 (l.set m.1 _) r).getD n [] = _
  rw [ih _ n (by simpa using hn)]
  by_cases e : m.1 = n
  ·subst e
   rw [ce hn, if_pos rfl]
   simp
  ·by_cases hm : m.1 < l.length
   ·rw [ce hm, if_neg e]; simp [e]
   ·rw [List.set_eq_of_length_le (by omega)]; simp [e]
theorem z9 (ev : List Nat) : ∀ (l : List Int) (n : Nat), n < l.length → (de l ev).getD n 0 = if n ∈ ev then 1 else l.getD n 0 := by
 induction ev with
 | nil => intro l n hn; simp [de]
 | cons m r ih =>
  intro l n hn
  show (de (l.set m _) r).getD n 0 = _
  rw [ih _ n (by simpa using hn)]
  by_cases hr : n ∈ r
  ·rw [if_pos hr, if_pos (by simp [hr])]
  ·rw [if_neg hr]
   by_cases e : m = n
   ·subst e
    rw [ce hn, if_pos rfl, if_pos (by simp)]
   ·rw [if_neg (by simp [hr]; omega)]
    by_cases hm : m < l.length
    ·rw [ce hm, if_neg e]
    ·rw [List.set_eq_of_length_le (by omega)]
section
variable {c : Ci} {s : Ns} {w : Nat → Bool}
theorem C7 (hc : bo c) {p n : Nat} (hp : p < c.procs.length) {f : Fi} {k : Nat} (hk : k ≤ (bH c p).takes.length) (h : n ∈ o7 (bH c p) f k) : n < c.chans.length ∧ (dt c n).dst = p := by
 obtain ⟨j, h1, h2, rfl⟩ := qo h
 obtain ⟨k1, k2, k3, k4⟩ := hc.tk p hp j (by omega)
 exact ⟨by show (lz (bH c p) j).chan.toNat < _; omega, k4⟩
theorem C8 (hc : bo c) {p : Nat} {e : Nat × Int} (hp : p < c.procs.length) {f : Fi} {k : Nat} (hk : k ≤ (bH c p).puts.length) (h : e ∈ o8 (bH c p) f k) : e.1 < c.chans.length ∧ (dt c e.1).frm = p := by
 obtain ⟨j, h1, h2, h3, h4⟩ := qp h
 obtain ⟨k1, k2, k3, k4⟩ := hc.pt p hp j (by omega)
 rw [← h3]
 exact ⟨by show (sB (bH c p) j).chan.toNat < _; omega, k4⟩
theorem rQ (hc : bo c) {p : Nat} (n : Nat) (hp : p < c.procs.length) {f : Fi} : ∀ {k : Nat}, k ≤ (bH c p).takes.length → (o7 (bH c p) f k).count n = if n ∈ o7 (bH c p) f k then 1 else 0
 | 0, _ => by simp [o7]
 | k + 1, hk => by
  have ih := rQ hc n hp (f := f) (k := k) (by omega)
  rw [o7, List.count_append, ih]
  by_cases h1 : f.pops.getD k false = true
  ·rw [if_pos h1]
   by_cases e : wi (bH c p) k = n
   ·have : n ∉ o7 (bH c p) f k := by
     intro hm
     obtain ⟨j, g1, g2, g3⟩ := qo hm
     have := hc.td p hp j k (by omega) (by omega) (by rw [g3, e])
     omega
    rw [if_neg this, e, List.count_singleton_self, if_pos (List.mem_append_right _ (List.mem_singleton.2 rfl))]
   ·have e3 : ([wi (bH c p) k]).count n = 0 := List.count_eq_zero.2 (by rw [List.mem_singleton]; exact fun h => e h.symm)
    rw [e3, Nat.add_zero]
    by_cases hm : n ∈ o7 (bH c p) f k
    ·rw [if_pos hm, if_pos (List.mem_append_left _ hm)]
    ·rw [if_neg hm, if_neg]
     intro h
     rcases List.mem_append.1 h with h | h
     ·exact hm h
     ·exact e (List.mem_singleton.1 h).symm
  ·rw [if_neg h1, List.append_nil]; rfl
theorem Aa {n : Nat} : ∀ {P : Nat}, n ∈ gu c s w P → ∃ p, p < P ∧ aD c s w p = true ∧ n ∈ o7 (bH c p) (ab c s p) (bH c p).takes.length
 | 0, h => by cases h
 | P + 1, h => by
  rw [gu, List.mem_append] at h
  rcases h with h | h
  ·obtain ⟨j, h1, h2⟩ := Aa h; exact ⟨j, by omega, h2⟩
  ·split at h
   ·rename_i hh; exact ⟨P, by omega, hh, h⟩
   ·cases h
theorem o9 (hc : bo c) (n : Nat) : ∀ {P : Nat}, P ≤ c.procs.length → (gu c s w P).count n = if iR c n < P then cX c s w n else 0
 | 0, _ => by simp [gu]
 | P + 1, hP => by
  have ih := o9 hc n (P := P) (by omega)
  rw [gu, List.count_append, ih]
  by_cases hd : iR c n = P
  ·rw [if_neg (show ¬iR c n < P by omega), if_pos (show iR c n < P + 1 by omega), cX, hd, Nat.zero_add]
   by_cases hf : aD c s w P = true
   ·rw [if_pos hf, rQ hc n (by omega) (Nat.le_refl _)]
    simp [e7, hf]
   ·rw [if_neg hf]; simp [hf]
  ·have h0 : (if aD c s w P = true then o7 (bH c P) (ab c s P) (bH c P).takes.length else []).count n = 0 := by
    split
    ·rw [rQ hc n (by omega) (Nat.le_refl _), if_neg]
     intro hm
     have := (C7 hc (by omega) (Nat.le_refl _) hm).2
     exact hd (by rw [iR, this]; rfl)
    ·rfl
   rw [h0]
   by_cases h1 : iR c n < P
   ·rw [if_pos h1, if_pos (show iR c n < P + 1 by omega)]; rfl
   ·rw [if_neg h1, if_neg (show ¬iR c n < P + 1 by omega)]
theorem GK (hc : bo c) {p n : Nat} (h : e7 c s p n = true) : p < c.procs.length := by
 by_cases hp : p < c.procs.length
 ·exact hp
 ·unfold e7 at h
  have e : bH c p = ax := by rw [bH, List.getD, List.getElem?_eq_none (by omega)]; rfl
  rw [e] at h
  simp [o7] at h
theorem C9 (hc : bo c) (n : Nat) : (if iR c n < c.procs.length then cX c s w n else 0) = cX c s w n := by
 split
 ·rfl
 ·rename_i h
  rw [cX, if_neg]
  rintro ⟨_, h2⟩
  exact h (GK hc h2)
theorem Iv (hc : bo c) {p n : Nat} (hp : p < c.procs.length) (hd : ¬fA c n = p) (f : Fi) : (o8 (bH c p) f (bH c p).puts.length).filter (fun e => e.1 == n) = [] := by
 rw [List.filter_eq_nil_iff]
 intro e he h
 have h1 : e.1 = n := by simpa using h
 have := (C8 hc hp (Nat.le_refl _) he).2
 rw [h1] at this
 exact hd (by rw [fA, this]; rfl)
theorem qr (hc : bo c) (n : Nat) : ∀ {P : Nat}, P ≤ c.procs.length → ((jG c s w P).filter (fun e => e.1 == n)).map (·.2) = if fA c n < P then cH c s w n else []
 | 0, _ => by simp [jG]
 | P + 1, hP => by
  have ih := qr hc n (P := P) (by omega)
  rw [jG, List.filter_append, List.map_append, ih]
  by_cases hd : fA c n = P
  ·rw [if_neg (show ¬fA c n < P by omega), if_pos (show fA c n < P + 1 by omega), cH, hd]
   by_cases hf : aD c s w P = true
   ·rw [if_pos hf, if_pos hf]; rfl
   ·rw [if_neg hf, if_neg hf]; rfl
  ·have h0 : (if aD c s w P = true then o8 (bH c P) (ab c s P) (bH c P).puts.length else []).filter (fun e => e.1 == n) = [] := by
    split
    ·exact Iv hc (by omega) hd _
    ·rfl
   rw [h0]
   by_cases h1 : fA c n < P
   ·rw [if_pos h1, if_pos (show fA c n < P + 1 by omega)]; exact List.append_nil _
   ·rw [if_neg h1, if_neg (show ¬fA c n < P + 1 by omega)]; rfl
theorem mc {p n : Nat} (hp : ¬p < c.procs.length) : s8 c s p n = [] := by
 have e : bH c p = ax := by rw [bH, List.getD, List.getElem?_eq_none (by omega)]; rfl
 unfold s8
 rw [e]; rfl
theorem yC (n : Nat) : (if fA c n < c.procs.length then cH c s w n else []) = cH c s w n := by
 split
 ·rfl
 ·rename_i h
  rw [cH]
  split
  ·rw [mc h]
  ·rfl
theorem EH (hc : bo c) (hs : s.chans.length = c.chans.length) : b8 (bz s.chans (gu c s w c.procs.length)) (jG c s w c.procs.length) = (a4 c s w).chans := by
 refine jX (d := []) ?_ (fun n hn => ?_)
 ·rw [jm, ew, a4, aR, hs]
 ·rw [jm, ew] at hn
  rw [sH _ _ _ (by rw [ew]; exact hn), mb _ _ _ hn, o9 hc n (Nat.le_refl _), qr hc n (Nat.le_refl _), C9 hc, yC]
  show _ = (tab (cB c s w) c.chans.length).getD n []
  rw [bn (by omega)]
  rfl
end
end Go.Proofs.YtgmpoenfoacofaaGreat
