/-
  Circuits, plain data: what firing does, channel by channel.
-/
import Derived.Test.YtifoecfajmnjjaaGreatQNeA
namespace Go.Proofs.YtifoecfajmnjjaaGreat
open Go.RowKit
set_option linter.unusedVariables false
set_option linter.unusedSimpArgs false
structure Ch where
 name : ByteArray
 w : Int
 cap : Int
 frm : Int
 dst : Int
abbrev aX : Ch := ⟨e0, 0, 0, 0, 0⟩
structure Ci where
 procs : List Pr
 chans : List Ch
structure Ns where
 procs : List Ps
 chans : List (List Int)
def iT (c : Ch) : List V := [.str c.name, .int .i64 c.w, .int .i64 c.cap, .int .i64 c.frm, .int .i64 c.dst]
abbrev GY : Ns := ⟨[], []⟩
abbrev bR (c : Ci) (i : Nat) : Pr := c.procs.getD i av
abbrev fF (c : Ci) (n : Nat) : Ch := c.chans.getD n aX
abbrev zL (s : Ns) (i : Nat) : Ps := s.procs.getD i a7
abbrev iX (s : Ns) (n : Nat) : List Int := s.chans.getD n []
abbrev wz (p : Pr) (j : Nat) : Nat := (lG p j).chan.toNat
abbrev u4 (p : Pr) (j : Nat) : Nat := (rO p j).chan.toNat
structure bK (c : Ci) : Prop where
 n1 : 1 ≤ c.procs.length
 nl : c.procs.length ≤ 100
 cl : c.chans.length ≤ 100
 pr : ∀ i, i < c.procs.length → fM (bR c i)
 tk : ∀ i, i < c.procs.length → ∀ j, j < (bR c i).takes.length → 0 ≤ (lG (bR c i) j).chan ∧ (lG (bR c i) j).chan < c.chans.length ∧ (fF c (wz (bR c i) j)).w = (lG (bR c i) j).w ∧ (fF c (wz (bR c i) j)).dst = i
 pt : ∀ i, i < c.procs.length → ∀ j, j < (bR c i).puts.length → 0 ≤ (rO (bR c i) j).chan ∧ (rO (bR c i) j).chan < c.chans.length ∧ (fF c (u4 (bR c i) j)).w = (rO (bR c i) j).w ∧ (fF c (u4 (bR c i) j)).frm = i
 td : ∀ i, i < c.procs.length → ∀ j k, j < (bR c i).takes.length → k < (bR c i).takes.length → wz (bR c i) j = wz (bR c i) k → j = k
 pd : ∀ i, i < c.procs.length → ∀ j k, j < (bR c i).puts.length → k < (bR c i).puts.length → u4 (bR c i) j = u4 (bR c i) k → j = k
 cw : ∀ n, n < c.chans.length → au (fF c n).w = true
 cp : ∀ n, n < c.chans.length → 0 ≤ (fF c n).cap
def b6 (l : List Int) (w : Int) : Bool := dh (fun i => cj (l.getD i 0) w) l.length
def gJ (c : Ci) (s : Ns) (n : Nat) : Bool := b6 (iX s n) (fF c n).w && (!(decide (0 ≤ (fF c n).frm) && decide (0 ≤ (fF c n).dst)) || decide (((iX s n).length : Int) ≤ (fF c n).cap))
def aV (c : Ci) (s : Ns) : Bool := decide (s.procs.length = c.procs.length) && decide (s.chans.length = c.chans.length) && dh (fun i => br (bR c i) (zL s i)) c.procs.length && dh (gJ c s) c.chans.length
structure bX (c : Ci) (s : Ns) : Prop where
 pl : s.procs.length = c.procs.length
 cl : s.chans.length = c.chans.length
 pv : ∀ i, i < c.procs.length → oa (bR c i) (zL s i)
 cv : ∀ n, n < c.chans.length → ∀ i, i < (iX s n).length → dD ((iX s n).getD i 0) (fF c n).w
 cc : ∀ n, n < c.chans.length → 0 ≤ (fF c n).frm → 0 ≤ (fF c n).dst → ((iX s n).length : Int) ≤ (fF c n).cap
theorem EC {l : List Int} {w : Int} : b6 l w = true ↔ ∀ i, i < l.length → dD (l.getD i 0) w := by
 unfold b6
 simp only [bQ, xX]
theorem iw {c : Ci} {s : Ns} : aV c s = true ↔ bX c s := by
 unfold aV gJ
 simp only [Bool.and_eq_true, decide_eq_true_eq, bQ, Cu, EC, Bool.or_eq_true, Bool.not_eq_true', Bool.and_eq_false_iff, decide_eq_false_iff_not]
 constructor
 ·rintro ⟨⟨⟨h1, h2⟩, h3⟩, h4⟩
  refine ⟨h1, h2, h3, fun n hn => (h4 n hn).1, fun n hn ha hb => ?_⟩
  rcases (h4 n hn).2 with (h | h) | h
  ·exact absurd ha h
  ·exact absurd hb h
  ·exact h
 ·intro h
  refine ⟨⟨⟨h.pl, h.cl⟩, h.pv⟩, fun n hn => ⟨h.cv n hn, ?_⟩⟩
  by_cases ha : 0 ≤ (fF c n).frm
  ·by_cases hb : 0 ≤ (fF c n).dst
   ·exact .inr (h.cc n hn ha hb)
   ·exact .inl (.inr hb)
  ·exact .inl (.inl ha)
def b9 (c : Ci) (s : Ns) (p j : Nat) : Hd := if 0 < (iX s (wz (bR c p) j)).length then ⟨true, (iX s (wz (bR c p) j)).getD 0 0⟩ else aK
def cS (c : Ci) (s : Ns) (p : Nat) : List Hd := aq (b9 c s p) (bR c p).takes.length
def ca (c : Ci) (s : Ns) (p j : Nat) : Bool := decide ((fF c (u4 (bR c p) j)).dst = -1) || decide (((iX s (u4 (bR c p) j)).length : Int) < (fF c (u4 (bR c p) j)).cap)
def di (c : Ci) (s : Ns) (p : Nat) : List Bool := aq (ca c s p) (bR c p).puts.length
def ab (c : Ci) (s : Ns) (p : Nat) : Fi := aU (bR c p) (zL s p) (cS c s p) (di c s p)
def fN (c : Ci) (s : Ns) (p : Nat) : Bool := (ab c s p).fires
def cf (c : Ci) (s : Ns) (p : Int) : Bool := decide (0 ≤ p) && (decide (p < c.procs.length) && fN c s p.toNat)
theorem zM (c : Ci) (s : Ns) (p : Nat) : fN c s p = gA (bR c p) (zL s p) (cS c s p) (di c s p) := zJ _ _ _ _
theorem pI {c : Ci} {s : Ns} (hc : bK c) (hs : bX c s) {p : Nat} (hp : p < c.procs.length) : xZ (bR c p) (cS c s p) where
 l := by rw [cS, aO]
 v := fun i hi hh => by
  rw [cS, bq hi] at hh ⊢
  unfold b9 at hh ⊢
  split
  ·rename_i h0
   obtain ⟨k1, k2, k3, k4⟩ := hc.tk p hp i hi
   have := hs.cv (wz (bR c p) i) (by show (lG (bR c p) i).chan.toNat < _; omega) 0 h0
   rw [k3] at this
   exact this
  ·rename_i h0; rw [if_neg h0] at hh; cases hh
def kY (p : Pr) (f : Fi) : Nat → List Nat
 | 0 => []
 | k + 1 => kY p f k ++ (if f.pops.getD k false = true then [wz p k] else [])
def lf (p : Pr) (f : Fi) : Nat → List (Nat × Int)
 | 0 => []
 | k + 1 => lf p f k ++ (if (f.puts.getD k aK).has = true then [(u4 p k, (f.puts.getD k aK).v)] else [])
def ax (c : Ci) (s : Ns) (w : Nat → Bool) (p : Nat) : Bool := w p && fN c s p
def eW (c : Ci) (s : Ns) (w : Nat → Bool) : Nat → List Nat
 | 0 => []
 | p + 1 => eW c s w p ++ (if ax c s w p = true then kY (bR c p) (ab c s p) (bR c p).takes.length else [])
def iY (c : Ci) (s : Ns) (w : Nat → Bool) : Nat → List (Nat × Int)
 | 0 => []
 | p + 1 => iY c s w p ++ (if ax c s w p = true then lf (bR c p) (ab c s p) (bR c p).puts.length else [])
def bf (l : List (List Int)) (ev : List Nat) : List (List Int) := ev.foldl (fun l n => l.set n ((l.getD n []).drop 1)) l
def bE (l : List (List Int)) (ev : List (Nat × Int)) : List (List Int) := ev.foldl (fun l e => l.set e.1 (l.getD e.1 [] ++ [e.2])) l
def de (l : List Int) (ev : List Nat) : List Int := ev.foldl (fun l n => l.set n 1) l
def c8 (l : List (Option Int)) (ev : List (Nat × Int)) : List (Option Int) := ev.foldl (fun l e => l.set e.1 (some e.2)) l
def km (c : Ci) (s : Ns) (p n : Nat) : Bool := decide (n ∈ kY (bR c p) (ab c s p) (bR c p).takes.length)
def wC (c : Ci) (s : Ns) (p n : Nat) : List Int := ((lf (bR c p) (ab c s p) (bR c p).puts.length).filter (fun e => e.1 == n)).map (·.2)
def qR (c : Ci) (n : Nat) : Nat := (fF c n).dst.toNat
def lL (c : Ci) (n : Nat) : Nat := (fF c n).frm.toNat
def fG (c : Ci) (s : Ns) (w : Nat → Bool) (n : Nat) : Nat := if ax c s w (qR c n) = true ∧ km c s (qR c n) n = true then 1 else 0
def fp (c : Ci) (s : Ns) (w : Nat → Bool) (n : Nat) : List Int := if ax c s w (lL c n) = true then wC c s (lL c n) n else []
def fq (c : Ci) (s : Ns) (w : Nat → Bool) (n : Nat) : List Int := (iX s n).drop (fG c s w n) ++ fp c s w n
def cb (c : Ci) (s : Ns) (w : Nat → Bool) (p : Nat) : Ps := if ax c s w p = true then (ab c s p).s else zL s p
def aD (c : Ci) (s : Ns) (w : Nat → Bool) : Ns := ⟨aq (cb c s w) c.procs.length, aq (fq c s w) c.chans.length⟩
theorem pJ {p : Pr} {f : Fi} {n : Nat} : ∀ {k : Nat}, n ∈ kY p f k → ∃ j, j < k ∧ f.pops.getD j false = true ∧ wz p j = n
 | 0, h => by cases h
 | k + 1, h => by
  rw [kY, List.mem_append] at h
  rcases h with h | h
  ·obtain ⟨j, h1, h2⟩ := pJ h; exact ⟨j, by omega, h2⟩
  ·split at h
   ·rename_i hh; simp only [List.mem_singleton] at h; exact ⟨k, by omega, hh, h.symm⟩
   ·cases h
theorem pK {p : Pr} {f : Fi} {e : Nat × Int} : ∀ {k : Nat}, e ∈ lf p f k → ∃ j, j < k ∧ (f.puts.getD j aK).has = true ∧ u4 p j = e.1 ∧ (f.puts.getD j aK).v = e.2
 | 0, h => by cases h
 | k + 1, h => by
  rw [lf, List.mem_append] at h
  rcases h with h | h
  ·obtain ⟨j, h1, h2⟩ := pK h; exact ⟨j, by omega, h2⟩
  ·split at h
   ·rename_i hh; simp only [List.mem_singleton] at h; subst h; exact ⟨k, by omega, hh, rfl, rfl⟩
   ·cases h
theorem cE (ev : List Nat) : ∀ (l : List (List Int)), (bf l ev).length = l.length := by
 induction ev with
 | nil => intro l; rfl
 | cons n r ih => intro l; show (bf _ r).length = _; rw [ih]; simp
theorem fb (ev : List (Nat × Int)) : ∀ (l : List (List Int)), (bE l ev).length = l.length := by
 induction ev with
 | nil => intro l; rfl
 | cons n r ih => intro l; show (bE _ r).length = _; rw [ih]; simp
theorem rB (ev : List Nat) : ∀ (l : List Int), (de l ev).length = l.length := by
 induction ev with
 | nil => intro l; rfl
 | cons n r ih => intro l; show (de _ r).length = _; rw [ih]; simp
theorem rC (ev : List (Nat × Int)) : ∀ (l : List (Option Int)), (c8 l ev).length = l.length := by
 induction ev with
 | nil => intro l; rfl
 | cons n r ih => intro l; show (c8 _ r).length = _; rw [ih]; simp
theorem pL (l : List (List Int)) (ev : List Nat) (n : Nat) : bf l (ev ++ [n]) = (bf l ev).set n (((bf l ev).getD n []).drop 1) := by simp [bf, List.foldl_append]
theorem pM (l : List (List Int)) (ev : List (Nat × Int)) (n : Nat) (v : Int) : bE l (ev ++ [(n, v)]) = (bE l ev).set n ((bE l ev).getD n [] ++ [v]) := by simp [bE, List.foldl_append]
theorem wD (l : List Int) (ev : List Nat) (n : Nat) : de l (ev ++ [n]) = (de l ev).set n 1 := by simp [de, List.foldl_append]
theorem wE (l : List (Option Int)) (ev : List (Nat × Int)) (n : Nat) (v : Int) : c8 l (ev ++ [(n, v)]) = (c8 l ev).set n (some v) := by simp [c8, List.foldl_append]
theorem lM (ev : List Nat) : ∀ (l : List (List Int)) (n : Nat), n < l.length → (bf l ev).getD n [] = (l.getD n []).drop (ev.count n) := by
 induction ev with
 | nil => intro l n hn; simp [bf]
 | cons m r ih =>
  intro l n hn
  show (bf (l.set m _) r).getD n [] = _
  rw [ih _ n (by simpa using hn), List.count_cons]
  by_cases e : m = n
  ·subst e
   rw [bV hn, if_pos rfl, List.drop_drop]
   simp [Nat.add_comm]
  ·by_cases hm : m < l.length
   ·rw [bV hm, if_neg e]; simp [e]
   ·rw [List.set_eq_of_length_le (by omega)]; simp [e]
theorem rD (ev : List (Nat × Int)) : ∀ (l : List (List Int)) (n : Nat), n < l.length → (bE l ev).getD n [] = l.getD n [] ++ (ev.filter (fun e => e.1 == n)).map (·.2) := by
 induction ev with
 | nil => intro l n hn; simp [bE]
 | cons m r ih =>
  intro l n hn
  show (bE (l.set m.1 _) r).getD n [] = _
  rw [ih _ n (by simpa using hn)]
  by_cases e : m.1 = n
  ·subst e
   rw [bV hn, if_pos rfl]
   simp
  ·by_cases hm : m.1 < l.length
   ·rw [bV hm, if_neg e]; simp [e]
   ·rw [List.set_eq_of_length_le (by omega)]; simp [e]
theorem x9 (ev : List Nat) : ∀ (l : List Int) (n : Nat), n < l.length → (de l ev).getD n 0 = if n ∈ ev then 1 else l.getD n 0 := by
 induction ev with
 | nil => intro l n hn; simp [de]
 | cons m r ih =>
  intro l n hn
  show (de (l.set m _) r).getD n 0 = _
  rw [ih _ n (by simpa using hn)]
  by_cases hr : n ∈ r
  ·rw [if_pos hr, if_pos (by simp [hr])]
  ·rw [if_neg hr]
   by_cases e : m = n
   ·subst e
    rw [bV hn, if_pos rfl, if_pos (by simp)]
   ·rw [if_neg (by simp [hr]; omega)]
    by_cases hm : m < l.length
    ·rw [bV hm, if_neg e]
    ·rw [List.set_eq_of_length_le (by omega)]
section
variable {c : Ci} {s : Ns} {w : Nat → Bool}
theorem Bo (hc : bK c) {p n : Nat} (hp : p < c.procs.length) {f : Fi} {k : Nat} (hk : k ≤ (bR c p).takes.length) (h : n ∈ kY (bR c p) f k) : n < c.chans.length ∧ (fF c n).dst = p := by
 obtain ⟨j, h1, h2, rfl⟩ := pJ h
 obtain ⟨k1, k2, k3, k4⟩ := hc.tk p hp j (by omega)
 exact ⟨by show (lG (bR c p) j).chan.toNat < _; omega, k4⟩
theorem Bp (hc : bK c) {p : Nat} {e : Nat × Int} (hp : p < c.procs.length) {f : Fi} {k : Nat} (hk : k ≤ (bR c p).puts.length) (h : e ∈ lf (bR c p) f k) : e.1 < c.chans.length ∧ (fF c e.1).frm = p := by
 obtain ⟨j, h1, h2, h3, h4⟩ := pK h
 obtain ⟨k1, k2, k3, k4⟩ := hc.pt p hp j (by omega)
 rw [← h3]
 exact ⟨by show (rO (bR c p) j).chan.toNat < _; omega, k4⟩
theorem qS (hc : bK c) {p : Nat} (n : Nat) (hp : p < c.procs.length) {f : Fi} : ∀ {k : Nat}, k ≤ (bR c p).takes.length → (kY (bR c p) f k).count n = if n ∈ kY (bR c p) f k then 1 else 0
 | 0, _ => by simp [kY]
 | k + 1, hk => by
  have ih := qS hc n hp (f := f) (k := k) (by omega)
  rw [kY, List.count_append, ih]
  by_cases h1 : f.pops.getD k false = true
  ·rw [if_pos h1]
   by_cases e : wz (bR c p) k = n
   ·have : n ∉ kY (bR c p) f k := by
     intro hm
     obtain ⟨j, g1, g2, g3⟩ := pJ hm
     have := hc.td p hp j k (by omega) (by omega) (by rw [g3, e])
     omega
    rw [if_neg this, e, List.count_singleton_self, if_pos (List.mem_append_right _ (List.mem_singleton.2 rfl))]
   ·have e3 : ([wz (bR c p) k]).count n = 0 := List.count_eq_zero.2 (by rw [List.mem_singleton]; exact fun h => e h.symm)
    rw [e3, Nat.add_zero]
    by_cases hm : n ∈ kY (bR c p) f k
    ·rw [if_pos hm, if_pos (List.mem_append_left _ hm)]
    ·rw [if_neg hm, if_neg]
     intro h
     rcases List.mem_append.1 h with h | h
     ·exact hm h
     ·exact e (List.mem_singleton.1 h).symm
  ·rw [if_neg h1, List.append_nil]; rfl
theorem ya {n : Nat} : ∀ {P : Nat}, n ∈ eW c s w P → ∃ p, p < P ∧ ax c s w p = true ∧ n ∈ kY (bR c p) (ab c s p) (bR c p).takes.length
 | 0, h => by cases h
 | P + 1, h => by
  rw [eW, List.mem_append] at h
  rcases h with h | h
  ·obtain ⟨j, h1, h2⟩ := ya h; exact ⟨j, by omega, h2⟩
  ·split at h
   ·rename_i hh; exact ⟨P, by omega, hh, h⟩
   ·cases h
theorem oe (hc : bK c) (n : Nat) : ∀ {P : Nat}, P ≤ c.procs.length → (eW c s w P).count n = if qR c n < P then fG c s w n else 0
 | 0, _ => by simp [eW]
 | P + 1, hP => by
  have ih := oe hc n (P := P) (by omega)
  rw [eW, List.count_append, ih]
  by_cases hd : qR c n = P
  ·rw [if_neg (show ¬qR c n < P by omega), if_pos (show qR c n < P + 1 by omega), fG, hd, Nat.zero_add]
   by_cases hf : ax c s w P = true
   ·rw [if_pos hf, qS hc n (by omega) (Nat.le_refl _)]
    simp [km, hf]
   ·rw [if_neg hf]; simp [hf]
  ·have h0 : (if ax c s w P = true then kY (bR c P) (ab c s P) (bR c P).takes.length else []).count n = 0 := by
    split
    ·rw [qS hc n (by omega) (Nat.le_refl _), if_neg]
     intro hm
     have := (Bo hc (by omega) (Nat.le_refl _) hm).2
     exact hd (by rw [qR, this]; rfl)
    ·rfl
   rw [h0]
   by_cases h1 : qR c n < P
   ·rw [if_pos h1, if_pos (show qR c n < P + 1 by omega)]; rfl
   ·rw [if_neg h1, if_neg (show ¬qR c n < P + 1 by omega)]
theorem ED (hc : bK c) {p n : Nat} (h : km c s p n = true) : p < c.procs.length := by
 by_cases hp : p < c.procs.length
 ·exact hp
 ·unfold km at h
  have e : bR c p = av := by rw [bR, List.getD, List.getElem?_eq_none (by omega)]; rfl
  rw [e] at h
  simp [kY] at h
theorem Bq (hc : bK c) (n : Nat) : (if qR c n < c.procs.length then fG c s w n else 0) = fG c s w n := by
 split
 ·rfl
 ·rename_i h
  rw [fG, if_neg]
  rintro ⟨_, h2⟩
  exact h (ED hc h2)
theorem F9 (hc : bK c) {p n : Nat} (hp : p < c.procs.length) (hd : ¬lL c n = p) (f : Fi) : (lf (bR c p) f (bR c p).puts.length).filter (fun e => e.1 == n) = [] := by
 rw [List.filter_eq_nil_iff]
 intro e he h
 have h1 : e.1 = n := by simpa using h
 have := (Bp hc hp (Nat.le_refl _) he).2
 rw [h1] at this
 exact hd (by rw [lL, this]; rfl)
theorem pN (hc : bK c) (n : Nat) : ∀ {P : Nat}, P ≤ c.procs.length → ((iY c s w P).filter (fun e => e.1 == n)).map (·.2) = if lL c n < P then fp c s w n else []
 | 0, _ => by simp [iY]
 | P + 1, hP => by
  have ih := pN hc n (P := P) (by omega)
  rw [iY, List.filter_append, List.map_append, ih]
  by_cases hd : lL c n = P
  ·rw [if_neg (show ¬lL c n < P by omega), if_pos (show lL c n < P + 1 by omega), fp, hd]
   by_cases hf : ax c s w P = true
   ·rw [if_pos hf, if_pos hf]; rfl
   ·rw [if_neg hf, if_neg hf]; rfl
  ·have h0 : (if ax c s w P = true then lf (bR c P) (ab c s P) (bR c P).puts.length else []).filter (fun e => e.1 == n) = [] := by
    split
    ·exact F9 hc (by omega) hd _
    ·rfl
   rw [h0]
   by_cases h1 : lL c n < P
   ·rw [if_pos h1, if_pos (show lL c n < P + 1 by omega)]; exact List.append_nil _
   ·rw [if_neg h1, if_neg (show ¬lL c n < P + 1 by omega)]; rfl
theorem lN {p n : Nat} (hp : ¬p < c.procs.length) : wC c s p n = [] := by
 have e : bR c p = av := by rw [bR, List.getD, List.getElem?_eq_none (by omega)]; rfl
 unfold wC
 rw [e]; rfl
theorem wF (n : Nat) : (if lL c n < c.procs.length then fp c s w n else []) = fp c s w n := by
 split
 ·rfl
 ·rename_i h
  rw [fp]
  split
  ·rw [lN h]
  ·rfl
theorem u5 (hc : bK c) (hs : s.chans.length = c.chans.length) : bE (bf s.chans (eW c s w c.procs.length)) (iY c s w c.procs.length) = (aD c s w).chans := by
 refine jy (d := []) ?_ (fun n hn => ?_)
 ·rw [fb, cE, aD, aO, hs]
 ·rw [fb, cE] at hn
  rw [rD _ _ _ (by rw [cE]; exact hn), lM _ _ _ hn, oe hc n (Nat.le_refl _), pN hc n (Nat.le_refl _), Bq hc, wF]
  show _ = (aq (fq c s w) c.chans.length).getD n []
  rw [bq (by omega)]
  rfl
end
end Go.Proofs.YtifoecfajmnjjaaGreat
