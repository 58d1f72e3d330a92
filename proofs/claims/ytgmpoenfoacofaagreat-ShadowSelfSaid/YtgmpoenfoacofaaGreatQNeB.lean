/-
  Circuits, plain data: what firing does, channel by channel.
-/
import Derived.Test.YtgmpoenfoacofaaGreatQNeA
namespace Go.Proofs.YtgmpoenfoacofaaGreat
open Go.RowKit
set_option linter.unusedVariables false
set_option linter.unusedSimpArgs false
structure Ch where
 name : ByteArray
 w : Int
 cap : Int
 frm : Int
 dst : Int
abbrev a8 : Ch := ⟨e0, 0, 0, 0, 0⟩
structure Ci where
 procs : List Pr
 chans : List Ch
structure Ns where
 procs : List Ps
 chans : List (List Int)
def eP (c : Ch) : List V := [.str c.name, .int .i64 c.w, .int .i64 c.cap, .int .i64 c.frm, .int .i64 c.dst]
abbrev EU : Ns := ⟨[], []⟩
abbrev bJ (c : Ci) (i : Nat) : Pr := c.procs.getD i ax
abbrev cL (c : Ci) (n : Nat) : Ch := c.chans.getD n a8
abbrev wG (s : Ns) (i : Nat) : Ps := s.procs.getD i bx
abbrev d7 (s : Ns) (n : Nat) : List Int := s.chans.getD n []
abbrev uk (p : Pr) (j : Nat) : Nat := (km p j).chan.toNat
abbrev t6 (p : Pr) (j : Nat) : Nat := (qT p j).chan.toNat
structure a6 (c : Ci) : Prop where
 n1 : 1 ≤ c.procs.length
 nl : c.procs.length ≤ 100
 cl : c.chans.length ≤ 100
 pr : ∀ i, i < c.procs.length → fL (bJ c i)
 tk : ∀ i, i < c.procs.length → ∀ j, j < (bJ c i).takes.length → 0 ≤ (km (bJ c i) j).chan ∧ (km (bJ c i) j).chan < c.chans.length ∧ (cL c (uk (bJ c i) j)).w = (km (bJ c i) j).w ∧ (cL c (uk (bJ c i) j)).dst = i
 pt : ∀ i, i < c.procs.length → ∀ j, j < (bJ c i).puts.length → 0 ≤ (qT (bJ c i) j).chan ∧ (qT (bJ c i) j).chan < c.chans.length ∧ (cL c (t6 (bJ c i) j)).w = (qT (bJ c i) j).w ∧ (cL c (t6 (bJ c i) j)).frm = i
 td : ∀ i, i < c.procs.length → ∀ j k, j < (bJ c i).takes.length → k < (bJ c i).takes.length → uk (bJ c i) j = uk (bJ c i) k → j = k
 pd : ∀ i, i < c.procs.length → ∀ j k, j < (bJ c i).puts.length → k < (bJ c i).puts.length → t6 (bJ c i) j = t6 (bJ c i) k → j = k
 cw : ∀ n, n < c.chans.length → am (cL c n).w = true
 cp : ∀ n, n < c.chans.length → 0 ≤ (cL c n).cap
def cD (l : List Int) (w : Int) : Bool := cz (fun i => c8 (l.getD i 0) w) l.length
def ia (c : Ci) (s : Ns) (n : Nat) : Bool := cD (d7 s n) (cL c n).w && (!(decide (0 ≤ (cL c n).frm) && decide (0 ≤ (cL c n).dst)) || decide (((d7 s n).length : Int) ≤ (cL c n).cap))
def bN (c : Ci) (s : Ns) : Bool := decide (s.procs.length = c.procs.length) && decide (s.chans.length = c.chans.length) && cz (fun i => bQ (bJ c i) (wG s i)) c.procs.length && cz (ia c s) c.chans.length
structure bH (c : Ci) (s : Ns) : Prop where
 pl : s.procs.length = c.procs.length
 cl : s.chans.length = c.chans.length
 pv : ∀ i, i < c.procs.length → nb (bJ c i) (wG s i)
 cv : ∀ n, n < c.chans.length → ∀ i, i < (d7 s n).length → dq ((d7 s n).getD i 0) (cL c n).w
 cc : ∀ n, n < c.chans.length → 0 ≤ (cL c n).frm → 0 ≤ (cL c n).dst → ((d7 s n).length : Int) ≤ (cL c n).cap
theorem tc {l : List Int} {w : Int} : cD l w = true ↔ ∀ i, i < l.length → dq (l.getD i 0) w := by
 unfold cD
 simp only [bu, ya]
theorem fm {c : Ci} {s : Ns} : bN c s = true ↔ bH c s := by
 unfold bN ia
 simp only [Bool.and_eq_true, decide_eq_true_eq, bu, CQ, tc, Bool.or_eq_true, Bool.not_eq_true', Bool.and_eq_false_iff, decide_eq_false_iff_not]
 constructor
 ·rintro ⟨⟨⟨h1, h2⟩, h3⟩, h4⟩
  refine ⟨h1, h2, h3, fun n hn => (h4 n hn).1, fun n hn ha hb => ?_⟩
  rcases (h4 n hn).2 with (h | h) | h
  ·exact absurd ha h
  ·exact absurd hb h
  ·exact h
 ·intro h
  refine ⟨⟨⟨h.pl, h.cl⟩, h.pv⟩, fun n hn => ⟨h.cv n hn, ?_⟩⟩
  by_cases ha : 0 ≤ (cL c n).frm
  ·by_cases hb : 0 ≤ (cL c n).dst
   ·exact .inr (h.cc n hn ha hb)
   ·exact .inl (.inr hb)
  ·exact .inl (.inl ha)
def bS (c : Ci) (s : Ns) (p j : Nat) : Hd := if 0 < (d7 s (uk (bJ c p) j)).length then ⟨true, (d7 s (uk (bJ c p) j)).getD 0 0⟩ else aR
def ci (c : Ci) (s : Ns) (p : Nat) : List Hd := ao (bS c s p) (bJ c p).takes.length
def bU (c : Ci) (s : Ns) (p j : Nat) : Bool := decide ((cL c (t6 (bJ c p) j)).dst = -1) || decide (((d7 s (t6 (bJ c p) j)).length : Int) < (cL c (t6 (bJ c p) j)).cap)
def cS (c : Ci) (s : Ns) (p : Nat) : List Bool := ao (bU c s p) (bJ c p).puts.length
def ab (c : Ci) (s : Ns) (p : Nat) : Fi := aK (bJ c p) (wG s p) (ci c s p) (cS c s p)
def cT (c : Ci) (s : Ns) (p : Nat) : Bool := (ab c s p).fires
def gz (c : Ci) (s : Ns) (p : Int) : Bool := decide (0 ≤ p) && (decide (p < c.procs.length) && cT c s p.toNat)
theorem te (c : Ci) (s : Ns) (p : Nat) : cT c s p = e9 (bJ c p) (wG s p) (ci c s p) (cS c s p) := zK _ _ _ _
theorem oU {c : Ci} {s : Ns} (hc : a6 c) (hs : bH c s) {p : Nat} (hp : p < c.procs.length) : yd (bJ c p) (ci c s p) where
 l := by rw [ci, aJ]
 v := fun i hi hh => by
  rw [ci, bh hi] at hh ⊢
  unfold bS at hh ⊢
  split
  ·rename_i h0
   obtain ⟨k1, k2, k3, k4⟩ := hc.tk p hp i hi
   have := hs.cv (uk (bJ c p) i) (by show (km (bJ c p) i).chan.toNat < _; omega) 0 h0
   rw [k3] at this
   exact this
  ·rename_i h0; rw [if_neg h0] at hh; cases hh
def ng (p : Pr) (f : Fi) : Nat → List Nat
 | 0 => []
 | k + 1 => ng p f k ++ (if f.pops.getD k false = true then [uk p k] else [])
def nh (p : Pr) (f : Fi) : Nat → List (Nat × Int)
 | 0 => []
 | k + 1 => nh p f k ++ (if (f.puts.getD k aR).has = true then [(t6 p k, (f.puts.getD k aR).v)] else [])
def aC (c : Ci) (s : Ns) (w : Nat → Bool) (p : Nat) : Bool := w p && cT c s p
def fO (c : Ci) (s : Ns) (w : Nat → Bool) : Nat → List Nat
 | 0 => []
 | p + 1 => fO c s w p ++ (if aC c s w p = true then ng (bJ c p) (ab c s p) (bJ c p).takes.length else [])
def iV (c : Ci) (s : Ns) (w : Nat → Bool) : Nat → List (Nat × Int)
 | 0 => []
 | p + 1 => iV c s w p ++ (if aC c s w p = true then nh (bJ c p) (ab c s p) (bJ c p).puts.length else [])
def bw (l : List (List Int)) (ev : List Nat) : List (List Int) := ev.foldl (fun l n => l.set n ((l.getD n []).drop 1)) l
def b4 (l : List (List Int)) (ev : List (Nat × Int)) : List (List Int) := ev.foldl (fun l e => l.set e.1 (l.getD e.1 [] ++ [e.2])) l
def df (l : List Int) (ev : List Nat) : List Int := ev.foldl (fun l n => l.set n 1) l
def da (l : List (Option Int)) (ev : List (Nat × Int)) : List (Option Int) := ev.foldl (fun l e => l.set e.1 (some e.2)) l
def ez (c : Ci) (s : Ns) (p n : Nat) : Bool := decide (n ∈ ng (bJ c p) (ab c s p) (bJ c p).takes.length)
def ni (c : Ci) (s : Ns) (p n : Nat) : List Int := ((nh (bJ c p) (ab c s p) (bJ c p).puts.length).filter (fun e => e.1 == n)).map (·.2)
def gA (c : Ci) (n : Nat) : Nat := (cL c n).dst.toNat
def eJ (c : Ci) (n : Nat) : Nat := (cL c n).frm.toNat
def cE (c : Ci) (s : Ns) (w : Nat → Bool) (n : Nat) : Nat := if aC c s w (gA c n) = true ∧ ez c s (gA c n) n = true then 1 else 0
def ca (c : Ci) (s : Ns) (w : Nat → Bool) (n : Nat) : List Int := if aC c s w (eJ c n) = true then ni c s (eJ c n) n else []
def cx (c : Ci) (s : Ns) (w : Nat → Bool) (n : Nat) : List Int := (d7 s n).drop (cE c s w n) ++ ca c s w n
def bE (c : Ci) (s : Ns) (w : Nat → Bool) (p : Nat) : Ps := if aC c s w p = true then (ab c s p).s else wG s p
def aG (c : Ci) (s : Ns) (w : Nat → Bool) : Ns := ⟨ao (bE c s w) c.procs.length, ao (cx c s w) c.chans.length⟩
theorem oV {p : Pr} {f : Fi} {n : Nat} : ∀ {k : Nat}, n ∈ ng p f k → ∃ j, j < k ∧ f.pops.getD j false = true ∧ uk p j = n
 | 0, h => by cases h
 | k + 1, h => by
  rw [ng, List.mem_append] at h
  rcases h with h | h
  ·obtain ⟨j, h1, h2⟩ := oV h; exact ⟨j, by omega, h2⟩
  ·split at h
   ·rename_i hh; simp only [List.mem_singleton] at h; exact ⟨k, by omega, hh, h.symm⟩
   ·cases h
theorem lP {p : Pr} {f : Fi} {e : Nat × Int} : ∀ {k : Nat}, e ∈ nh p f k → ∃ j, j < k ∧ (f.puts.getD j aR).has = true ∧ t6 p j = e.1 ∧ (f.puts.getD j aR).v = e.2
 | 0, h => by cases h
 | k + 1, h => by
  rw [nh, List.mem_append] at h
  rcases h with h | h
  ·obtain ⟨j, h1, h2⟩ := lP h; exact ⟨j, by omega, h2⟩
  ·split at h
   ·rename_i hh; simp only [List.mem_singleton] at h; subst h; exact ⟨k, by omega, hh, rfl, rfl⟩
   ·cases h
theorem d8 (ev : List Nat) : ∀ (l : List (List Int)), (bw l ev).length = l.length := by
 induction ev with
 | nil => intro l; rfl
 | cons n r ih => intro l; show (bw _ r).length = _; rw [ih]; simp
theorem iI (ev : List (Nat × Int)) : ∀ (l : List (List Int)), (b4 l ev).length = l.length := by
 induction ev with
 | nil => intro l; rfl
 | cons n r ih => intro l; show (b4 _ r).length = _; rw [ih]; simp
theorem qW (ev : List Nat) : ∀ (l : List Int), (df l ev).length = l.length := by
 induction ev with
 | nil => intro l; rfl
 | cons n r ih => intro l; show (df _ r).length = _; rw [ih]; simp
theorem qX (ev : List (Nat × Int)) : ∀ (l : List (Option Int)), (da l ev).length = l.length := by
 induction ev with
 | nil => intro l; rfl
 | cons n r ih => intro l; show (da _ r).length = _; rw [ih]; simp
theorem wH (l : List (List Int)) (ev : List Nat) (n : Nat) : bw l (ev ++ [n]) = (bw l ev).set n (((bw l ev).getD n []).drop 1) := by simp [bw, List.foldl_append]
theorem wI (l : List (List Int)) (ev : List (Nat × Int)) (n : Nat) (v : Int) : b4 l (ev ++ [(n, v)]) = (b4 l ev).set n ((b4 l ev).getD n [] ++ [v]) := by simp [b4, List.foldl_append]
theorem wJ (l : List Int) (ev : List Nat) (n : Nat) : df l (ev ++ [n]) = (df l ev).set n 1 := by simp [df, List.foldl_append]
theorem wK (l : List (Option Int)) (ev : List (Nat × Int)) (n : Nat) (v : Int) : da l (ev ++ [(n, v)]) = (da l ev).set n (some v) := by simp [da, List.foldl_append]
theorem kU (ev : List Nat) : ∀ (l : List (List Int)) (n : Nat), n < l.length → (bw l ev).getD n [] = (l.getD n []).drop (ev.count n) := by
 induction ev with
 | nil => intro l n hn; simp [bw]
 | cons m r ih =>
  intro l n hn
  show (bw (l.set m _) r).getD n [] = _
  rw [ih _ n (by simpa using hn), List.count_cons]
  by_cases e : m = n
  ·subst e
   rw [bZ hn, if_pos rfl, List.drop_drop]
   simp [Nat.add_comm]
  ·by_cases hm : m < l.length
   ·rw [bZ hm, if_neg e]; simp [e]
   ·rw [List.set_eq_of_length_le (by omega)]; simp [e]
theorem qY (ev : List (Nat × Int)) : ∀ (l : List (List Int)) (n : Nat), n < l.length → (b4 l ev).getD n [] = l.getD n [] ++ (ev.filter (fun e => e.1 == n)).map (·.2) := by
 induction ev with
 | nil => intro l n hn; simp [b4]
 | cons m r ih =>
  intro l n hn
  show (b4 (l.set m.1 _) r).getD n [] = _
  rw [ih _ n (by simpa using hn)]
  by_cases e : m.1 = n
  ·subst e
   rw [bZ hn, if_pos rfl]
   simp
  ·by_cases hm : m.1 < l.length
   ·rw [bZ hm, if_neg e]; simp [e]
   ·rw [List.set_eq_of_length_le (by omega)]; simp [e]
theorem yg (ev : List Nat) : ∀ (l : List Int) (n : Nat), n < l.length → (df l ev).getD n 0 = if n ∈ ev then 1 else l.getD n 0 := by
 induction ev with
 | nil => intro l n hn; simp [df]
 | cons m r ih =>
  intro l n hn
  show (df (l.set m _) r).getD n 0 = _
  rw [ih _ n (by simpa using hn)]
  by_cases hr : n ∈ r
  ·rw [if_pos hr, if_pos (by simp [hr])]
  ·rw [if_neg hr]
   by_cases e : m = n
   ·subst e
    rw [bZ hn, if_pos rfl, if_pos (by simp)]
   ·rw [if_neg (by simp [hr]; omega)]
    by_cases hm : m < l.length
    ·rw [bZ hm, if_neg e]
    ·rw [List.set_eq_of_length_le (by omega)]
section
variable {c : Ci} {s : Ns} {w : Nat → Bool}
theorem Bf (hc : a6 c) {p n : Nat} (hp : p < c.procs.length) {f : Fi} {k : Nat} (hk : k ≤ (bJ c p).takes.length) (h : n ∈ ng (bJ c p) f k) : n < c.chans.length ∧ (cL c n).dst = p := by
 obtain ⟨j, h1, h2, rfl⟩ := oV h
 obtain ⟨k1, k2, k3, k4⟩ := hc.tk p hp j (by omega)
 exact ⟨by show (km (bJ c p) j).chan.toNat < _; omega, k4⟩
theorem Bg (hc : a6 c) {p : Nat} {e : Nat × Int} (hp : p < c.procs.length) {f : Fi} {k : Nat} (hk : k ≤ (bJ c p).puts.length) (h : e ∈ nh (bJ c p) f k) : e.1 < c.chans.length ∧ (cL c e.1).frm = p := by
 obtain ⟨j, h1, h2, h3, h4⟩ := lP h
 obtain ⟨k1, k2, k3, k4⟩ := hc.pt p hp j (by omega)
 rw [← h3]
 exact ⟨by show (qT (bJ c p) j).chan.toNat < _; omega, k4⟩
theorem qj (hc : a6 c) {p : Nat} (n : Nat) (hp : p < c.procs.length) {f : Fi} : ∀ {k : Nat}, k ≤ (bJ c p).takes.length → (ng (bJ c p) f k).count n = if n ∈ ng (bJ c p) f k then 1 else 0
 | 0, _ => by simp [ng]
 | k + 1, hk => by
  have ih := qj hc n hp (f := f) (k := k) (by omega)
  rw [ng, List.count_append, ih]
  by_cases h1 : f.pops.getD k false = true
  ·rw [if_pos h1]
   by_cases e : uk (bJ c p) k = n
   ·have : n ∉ ng (bJ c p) f k := by
     intro hm
     obtain ⟨j, g1, g2, g3⟩ := oV hm
     have := hc.td p hp j k (by omega) (by omega) (by rw [g3, e])
     omega
    rw [if_neg this, e, List.count_singleton_self, if_pos (List.mem_append_right _ (List.mem_singleton.2 rfl))]
   ·have e3 : ([uk (bJ c p) k]).count n = 0 := List.count_eq_zero.2 (by rw [List.mem_singleton]; exact fun h => e h.symm)
    rw [e3, Nat.add_zero]
    by_cases hm : n ∈ ng (bJ c p) f k
    ·rw [if_pos hm, if_pos (List.mem_append_left _ hm)]
    ·rw [if_neg hm, if_neg]
     intro h
     rcases List.mem_append.1 h with h | h
     ·exact hm h
     ·exact e (List.mem_singleton.1 h).symm
  ·rw [if_neg h1, List.append_nil]; rfl
theorem yh {n : Nat} : ∀ {P : Nat}, n ∈ fO c s w P → ∃ p, p < P ∧ aC c s w p = true ∧ n ∈ ng (bJ c p) (ab c s p) (bJ c p).takes.length
 | 0, h => by cases h
 | P + 1, h => by
  rw [fO, List.mem_append] at h
  rcases h with h | h
  ·obtain ⟨j, h1, h2⟩ := yh h; exact ⟨j, by omega, h2⟩
  ·split at h
   ·rename_i hh; exact ⟨P, by omega, hh, h⟩
   ·cases h
theorem nj (hc : a6 c) (n : Nat) : ∀ {P : Nat}, P ≤ c.procs.length → (fO c s w P).count n = if gA c n < P then cE c s w n else 0
 | 0, _ => by simp [fO]
 | P + 1, hP => by
  have ih := nj hc n (P := P) (by omega)
  rw [fO, List.count_append, ih]
  by_cases hd : gA c n = P
  ·rw [if_neg (show ¬gA c n < P by omega), if_pos (show gA c n < P + 1 by omega), cE, hd, Nat.zero_add]
   by_cases hf : aC c s w P = true
   ·rw [if_pos hf, qj hc n (by omega) (Nat.le_refl _)]
    simp [ez, hf]
   ·rw [if_neg hf]; simp [hf]
  ·have h0 : (if aC c s w P = true then ng (bJ c P) (ab c s P) (bJ c P).takes.length else []).count n = 0 := by
    split
    ·rw [qj hc n (by omega) (Nat.le_refl _), if_neg]
     intro hm
     have := (Bf hc (by omega) (Nat.le_refl _) hm).2
     exact hd (by rw [gA, this]; rfl)
    ·rfl
   rw [h0]
   by_cases h1 : gA c n < P
   ·rw [if_pos h1, if_pos (show gA c n < P + 1 by omega)]; rfl
   ·rw [if_neg h1, if_neg (show ¬gA c n < P + 1 by omega)]
theorem EV (hc : a6 c) {p n : Nat} (h : ez c s p n = true) : p < c.procs.length := by
 by_cases hp : p < c.procs.length
 ·exact hp
 ·unfold ez at h
  have e : bJ c p = ax := by rw [bJ, List.getD, List.getElem?_eq_none (by omega)]; rfl
  rw [e] at h
  simp [ng] at h
theorem Bh (hc : a6 c) (n : Nat) : (if gA c n < c.procs.length then cE c s w n else 0) = cE c s w n := by
 split
 ·rfl
 ·rename_i h
  rw [cE, if_neg]
  rintro ⟨_, h2⟩
  exact h (EV hc h2)
theorem GH (hc : a6 c) {p n : Nat} (hp : p < c.procs.length) (hd : ¬eJ c n = p) (f : Fi) : (nh (bJ c p) f (bJ c p).puts.length).filter (fun e => e.1 == n) = [] := by
 rw [List.filter_eq_nil_iff]
 intro e he h
 have h1 : e.1 = n := by simpa using h
 have := (Bg hc hp (Nat.le_refl _) he).2
 rw [h1] at this
 exact hd (by rw [eJ, this]; rfl)
theorem oW (hc : a6 c) (n : Nat) : ∀ {P : Nat}, P ≤ c.procs.length → ((iV c s w P).filter (fun e => e.1 == n)).map (·.2) = if eJ c n < P then ca c s w n else []
 | 0, _ => by simp [iV]
 | P + 1, hP => by
  have ih := oW hc n (P := P) (by omega)
  rw [iV, List.filter_append, List.map_append, ih]
  by_cases hd : eJ c n = P
  ·rw [if_neg (show ¬eJ c n < P by omega), if_pos (show eJ c n < P + 1 by omega), ca, hd]
   by_cases hf : aC c s w P = true
   ·rw [if_pos hf, if_pos hf]; rfl
   ·rw [if_neg hf, if_neg hf]; rfl
  ·have h0 : (if aC c s w P = true then nh (bJ c P) (ab c s P) (bJ c P).puts.length else []).filter (fun e => e.1 == n) = [] := by
    split
    ·exact GH hc (by omega) hd _
    ·rfl
   rw [h0]
   by_cases h1 : eJ c n < P
   ·rw [if_pos h1, if_pos (show eJ c n < P + 1 by omega)]; exact List.append_nil _
   ·rw [if_neg h1, if_neg (show ¬eJ c n < P + 1 by omega)]; rfl
theorem ja {p n : Nat} (hp : ¬p < c.procs.length) : ni c s p n = [] := by
 have e : bJ c p = ax := by rw [bJ, List.getD, List.getElem?_eq_none (by omega)]; rfl
 unfold ni
 rw [e]; rfl
theorem wL (n : Nat) : (if eJ c n < c.procs.length then ca c s w n else []) = ca c s w n := by
 split
 ·rfl
 ·rename_i h
  rw [ca]
  split
  ·rw [ja h]
  ·rfl
theorem CT (hc : a6 c) (hs : s.chans.length = c.chans.length) : b4 (bw s.chans (fO c s w c.procs.length)) (iV c s w c.procs.length) = (aG c s w).chans := by
 refine oL (d := []) ?_ (fun n hn => ?_)
 ·rw [iI, d8, aG, aJ, hs]
 ·rw [iI, d8] at hn
  rw [qY _ _ _ (by rw [d8]; exact hn), kU _ _ _ hn, nj hc n (Nat.le_refl _), oW hc n (Nat.le_refl _), Bh hc, wL]
  show _ = (ao (cx c s w) c.chans.length).getD n []
  rw [bh (by omega)]
  rfl
end
end Go.Proofs.YtgmpoenfoacofaaGreat
