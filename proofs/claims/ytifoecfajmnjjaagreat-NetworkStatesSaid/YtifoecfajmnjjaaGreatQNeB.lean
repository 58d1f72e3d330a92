/-
  Circuits, plain data: what firing does, channel by channel.
-/
import Derived.Test.YtifoecfajmnjjaaGreatQNeA
namespace Go.Proofs.YtifoecfajmnjjaaGreat
open Go.RowKit
set_option linter.unusedVariables false
set_option linter.unusedSimpArgs false
structure Ch where
 name : ByteArray
 w : Int
 cap : Int
 frm : Int
 dst : Int
abbrev be : Ch := ⟨e0, 0, 0, 0, 0⟩
structure Ci where
 procs : List Pr
 chans : List Ch
structure Ns where
 procs : List Ps
 chans : List (List Int)
def iM (c : Ch) : List V := [.str c.name, .int .i64 c.w, .int .i64 c.cap, .int .i64 c.frm, .int .i64 c.dst]
abbrev HD : Ns := ⟨[], []⟩
abbrev ay (c : Ci) (i : Nat) : Pr := c.procs.getD i av
abbrev gx (c : Ci) (n : Nat) : Ch := c.chans.getD n be
abbrev yG (s : Ns) (i : Nat) : Ps := s.procs.getD i a7
abbrev ir (s : Ns) (n : Nat) : List Int := s.chans.getD n []
abbrev cf (p : Pr) (j : Nat) : Nat := (kS p j).chan.toNat
abbrev bP (p : Pr) (j : Nat) : Nat := (qW p j).chan.toNat
structure bR (c : Ci) : Prop where
 n1 : 1 ≤ c.procs.length
 nl : c.procs.length ≤ 100
 cl : c.chans.length ≤ 100
 pr : ∀ i, i < c.procs.length → fS (ay c i)
 tk : ∀ i, i < c.procs.length → ∀ j, j < (ay c i).takes.length → 0 ≤ (kS (ay c i) j).chan ∧ (kS (ay c i) j).chan < c.chans.length ∧ (gx c (cf (ay c i) j)).w = (kS (ay c i) j).w ∧ (gx c (cf (ay c i) j)).dst = i
 pt : ∀ i, i < c.procs.length → ∀ j, j < (ay c i).puts.length → 0 ≤ (qW (ay c i) j).chan ∧ (qW (ay c i) j).chan < c.chans.length ∧ (gx c (bP (ay c i) j)).w = (qW (ay c i) j).w ∧ (gx c (bP (ay c i) j)).frm = i
 td : ∀ i, i < c.procs.length → ∀ j k, j < (ay c i).takes.length → k < (ay c i).takes.length → cf (ay c i) j = cf (ay c i) k → j = k
 pd : ∀ i, i < c.procs.length → ∀ j k, j < (ay c i).puts.length → k < (ay c i).puts.length → bP (ay c i) j = bP (ay c i) k → j = k
 cw : ∀ n, n < c.chans.length → ax (gx c n).w = true
 cp : ∀ n, n < c.chans.length → 0 ≤ (gx c n).cap
def cg (l : List Int) (w : Int) : Bool := dq (fun i => cr (l.getD i 0) w) l.length
def gL (c : Ci) (s : Ns) (n : Nat) : Bool := cg (ir s n) (gx c n).w && (!(decide (0 ≤ (gx c n).frm) && decide (0 ≤ (gx c n).dst)) || decide (((ir s n).length : Int) ≤ (gx c n).cap))
def a4 (c : Ci) (s : Ns) : Bool := decide (s.procs.length = c.procs.length) && decide (s.chans.length = c.chans.length) && dq (fun i => br (ay c i) (yG s i)) c.procs.length && dq (gL c s) c.chans.length
structure cT (c : Ci) (s : Ns) : Prop where
 pl : s.procs.length = c.procs.length
 cl : s.chans.length = c.chans.length
 pv : ∀ i, i < c.procs.length → nQ (ay c i) (yG s i)
 cv : ∀ n, n < c.chans.length → ∀ i, i < (ir s n).length → dG ((ir s n).getD i 0) (gx c n).w
 cc : ∀ n, n < c.chans.length → 0 ≤ (gx c n).frm → 0 ≤ (gx c n).dst → ((ir s n).length : Int) ≤ (gx c n).cap
theorem Dr {l : List Int} {w : Int} : cg l w = true ↔ ∀ i, i < l.length → dG (l.getD i 0) w := by
 unfold cg
 simp only [ck, wZ]
theorem dC {c : Ci} {s : Ns} : a4 c s = true ↔ cT c s := by
 unfold a4 gL
 simp only [Bool.and_eq_true, decide_eq_true_eq, ck, Bm, Dr, Bool.or_eq_true, Bool.not_eq_true', Bool.and_eq_false_iff, decide_eq_false_iff_not]
 constructor
 ·rintro ⟨⟨⟨h1, h2⟩, h3⟩, h4⟩
  refine ⟨h1, h2, h3, fun n hn => (h4 n hn).1, fun n hn ha hb => ?_⟩
  rcases (h4 n hn).2 with (h | h) | h
  ·exact absurd ha h
  ·exact absurd hb h
  ·exact h
 ·intro h
  refine ⟨⟨⟨h.pl, h.cl⟩, h.pv⟩, fun n hn => ⟨h.cv n hn, ?_⟩⟩
  by_cases ha : 0 ≤ (gx c n).frm
  ·by_cases hb : 0 ≤ (gx c n).dst
   ·exact .inr (h.cc n hn ha hb)
   ·exact .inl (.inr hb)
  ·exact .inl (.inl ha)
def b8 (c : Ci) (s : Ns) (p j : Nat) : Hd := if 0 < (ir s (cf (ay c p) j)).length then ⟨true, (ir s (cf (ay c p) j)).getD 0 0⟩ else aG
def cU (c : Ci) (s : Ns) (p : Nat) : List Hd := an (b8 c s p) (ay c p).takes.length
def b9 (c : Ci) (s : Ns) (p j : Nat) : Bool := decide ((gx c (bP (ay c p) j)).dst = -1) || decide (((ir s (bP (ay c p) j)).length : Int) < (gx c (bP (ay c p) j)).cap)
def di (c : Ci) (s : Ns) (p : Nat) : List Bool := an (b9 c s p) (ay c p).puts.length
def ab (c : Ci) (s : Ns) (p : Nat) : Fi := aV (ay c p) (yG s p) (cU c s p) (di c s p)
def iR (c : Ci) (s : Ns) (p : Nat) : Bool := (ab c s p).fires
def dj (c : Ci) (s : Ns) (p : Int) : Bool := decide (0 ≤ p) && (decide (p < c.procs.length) && iR c s p.toNat)
theorem yH (c : Ci) (s : Ns) (p : Nat) : iR c s p = gC (ay c p) (yG s p) (cU c s p) (di c s p) := yE _ _ _ _
theorem px {c : Ci} {s : Ns} (hc : bR c) (hs : cT c s) {p : Nat} (hp : p < c.procs.length) : w4 (ay c p) (cU c s p) where
 l := by rw [cU, aM]
 v := fun i hi hh => by
  rw [cU, bA hi] at hh ⊢
  unfold b8 at hh ⊢
  split
  ·rename_i h0
   obtain ⟨k1, k2, k3, k4⟩ := hc.tk p hp i hi
   have := hs.cv (cf (ay c p) i) (by show (kS (ay c p) i).chan.toNat < _; omega) 0 h0
   rw [k3] at this
   exact this
  ·rename_i h0; rw [if_neg h0] at hh; cases hh
def fA (p : Pr) (f : Fi) : Nat → List Nat
 | 0 => []
 | k + 1 => fA p f k ++ (if f.pops.getD k false = true then [cf p k] else [])
def fT (p : Pr) (f : Fi) : Nat → List (Nat × Int)
 | 0 => []
 | k + 1 => fT p f k ++ (if (f.puts.getD k aG).has = true then [(bP p k, (f.puts.getD k aG).v)] else [])
def ai (c : Ci) (s : Ns) (w : Nat → Bool) (p : Nat) : Bool := w p && iR c s p
def eZ (c : Ci) (s : Ns) (w : Nat → Bool) : Nat → List Nat
 | 0 => []
 | p + 1 => eZ c s w p ++ (if ai c s w p = true then fA (ay c p) (ab c s p) (ay c p).takes.length else [])
def iT (c : Ci) (s : Ns) (w : Nat → Bool) : Nat → List (Nat × Int)
 | 0 => []
 | p + 1 => iT c s w p ++ (if ai c s w p = true then fT (ay c p) (ab c s p) (ay c p).puts.length else [])
def aN (l : List (List Int)) (ev : List Nat) : List (List Int) := ev.foldl (fun l n => l.set n ((l.getD n []).drop 1)) l
def a6 (l : List (List Int)) (ev : List (Nat × Int)) : List (List Int) := ev.foldl (fun l e => l.set e.1 (l.getD e.1 [] ++ [e.2])) l
def df (l : List Int) (ev : List Nat) : List Int := ev.foldl (fun l n => l.set n 1) l
def c8 (l : List (Option Int)) (ev : List (Nat × Int)) : List (Option Int) := ev.foldl (fun l e => l.set e.1 (some e.2)) l
def jk (c : Ci) (s : Ns) (p n : Nat) : Bool := decide (n ∈ fA (ay c p) (ab c s p) (ay c p).takes.length)
def tx (c : Ci) (s : Ns) (p n : Nat) : List Int := ((fT (ay c p) (ab c s p) (ay c p).puts.length).filter (fun e => e.1 == n)).map (·.2)
def fK (c : Ci) (n : Nat) : Nat := (gx c n).dst.toNat
def gX (c : Ci) (n : Nat) : Nat := (gx c n).frm.toNat
def dt (c : Ci) (s : Ns) (w : Nat → Bool) (n : Nat) : Nat := if ai c s w (fK c n) = true ∧ jk c s (fK c n) n = true then 1 else 0
def dk (c : Ci) (s : Ns) (w : Nat → Bool) (n : Nat) : List Int := if ai c s w (gX c n) = true then tx c s (gX c n) n else []
def ff (c : Ci) (s : Ns) (w : Nat → Bool) (n : Nat) : List Int := (ir s n).drop (dt c s w n) ++ dk c s w n
def bX (c : Ci) (s : Ns) (w : Nat → Bool) (p : Nat) : Ps := if ai c s w p = true then (ab c s p).s else yG s p
def aD (c : Ci) (s : Ns) (w : Nat → Bool) : Ns := ⟨an (bX c s w) c.procs.length, an (ff c s w) c.chans.length⟩
theorem me {p : Pr} {f : Fi} {n : Nat} : ∀ {k : Nat}, n ∈ fA p f k → ∃ j, j < k ∧ f.pops.getD j false = true ∧ cf p j = n
 | 0, h => by cases h
 | k + 1, h => by
  rw [fA, List.mem_append] at h
  rcases h with h | h
  ·obtain ⟨j, h1, h2⟩ := me h; exact ⟨j, by omega, h2⟩
  ·split at h
   ·rename_i hh; simp only [List.mem_singleton] at h; exact ⟨k, by omega, hh, h.symm⟩
   ·cases h
theorem py {p : Pr} {f : Fi} {e : Nat × Int} : ∀ {k : Nat}, e ∈ fT p f k → ∃ j, j < k ∧ (f.puts.getD j aG).has = true ∧ bP p j = e.1 ∧ (f.puts.getD j aG).v = e.2
 | 0, h => by cases h
 | k + 1, h => by
  rw [fT, List.mem_append] at h
  rcases h with h | h
  ·obtain ⟨j, h1, h2⟩ := py h; exact ⟨j, by omega, h2⟩
  ·split at h
   ·rename_i hh; simp only [List.mem_singleton] at h; subst h; exact ⟨k, by omega, hh, rfl, rfl⟩
   ·cases h
theorem bf (ev : List Nat) : ∀ (l : List (List Int)), (aN l ev).length = l.length := by
 induction ev with
 | nil => intro l; rfl
 | cons n r ih => intro l; show (aN _ r).length = _; rw [ih]; simp
theorem ct (ev : List (Nat × Int)) : ∀ (l : List (List Int)), (a6 l ev).length = l.length := by
 induction ev with
 | nil => intro l; rfl
 | cons n r ih => intro l; show (a6 _ r).length = _; rw [ih]; simp
theorem qY (ev : List Nat) : ∀ (l : List Int), (df l ev).length = l.length := by
 induction ev with
 | nil => intro l; rfl
 | cons n r ih => intro l; show (df _ r).length = _; rw [ih]; simp
theorem qZ (ev : List (Nat × Int)) : ∀ (l : List (Option Int)), (c8 l ev).length = l.length := by
 induction ev with
 | nil => intro l; rfl
 | cons n r ih => intro l; show (c8 _ r).length = _; rw [ih]; simp
theorem kg (l : List (List Int)) (ev : List Nat) (n : Nat) : aN l (ev ++ [n]) = (aN l ev).set n (((aN l ev).getD n []).drop 1) := by simp [aN, List.foldl_append]
theorem kh (l : List (List Int)) (ev : List (Nat × Int)) (n : Nat) (v : Int) : a6 l (ev ++ [(n, v)]) = (a6 l ev).set n ((a6 l ev).getD n [] ++ [v]) := by simp [a6, List.foldl_append]
theorem vG (l : List Int) (ev : List Nat) (n : Nat) : df l (ev ++ [n]) = (df l ev).set n 1 := by simp [df, List.foldl_append]
theorem vH (l : List (Option Int)) (ev : List (Nat × Int)) (n : Nat) (v : Int) : c8 l (ev ++ [(n, v)]) = (c8 l ev).set n (some v) := by simp [c8, List.foldl_append]
theorem gr (ev : List Nat) : ∀ (l : List (List Int)) (n : Nat), n < l.length → (aN l ev).getD n [] = (l.getD n []).drop (ev.count n) := by
 induction ev with
 | nil => intro l n hn; simp [aN]
 | cons m r ih =>
  intro l n hn
  show (aN (l.set m _) r).getD n [] = _
  rw [ih _ n (by simpa using hn), List.count_cons]
  by_cases e : m = n
  ·subst e
   rw [b6 hn, if_pos rfl, List.drop_drop]
   simp [Nat.add_comm]
  ·by_cases hm : m < l.length
   ·rw [b6 hm, if_neg e]; simp [e]
   ·rw [List.set_eq_of_length_le (by omega)]; simp [e]
theorem ly (ev : List (Nat × Int)) : ∀ (l : List (List Int)) (n : Nat), n < l.length → (a6 l ev).getD n [] = l.getD n [] ++ (ev.filter (fun e => e.1 == n)).map (·.2) := by
 induction ev with
 | nil => intro l n hn; simp [a6]
 | cons m r ih =>
  intro l n hn
  show (a6 (l.set m.1 _) r).getD n [] = _
  rw [ih _ n (by simpa using hn)]
  by_cases e : m.1 = n
  ·subst e
   rw [b6 hn, if_pos rfl]
   simp
  ·by_cases hm : m.1 < l.length
   ·rw [b6 hm, if_neg e]; simp [e]
   ·rw [List.set_eq_of_length_le (by omega)]; simp [e]
theorem w9 (ev : List Nat) : ∀ (l : List Int) (n : Nat), n < l.length → (df l ev).getD n 0 = if n ∈ ev then 1 else l.getD n 0 := by
 induction ev with
 | nil => intro l n hn; simp [df]
 | cons m r ih =>
  intro l n hn
  show (df (l.set m _) r).getD n 0 = _
  rw [ih _ n (by simpa using hn)]
  by_cases hr : n ∈ r
  ·rw [if_pos hr, if_pos (by simp [hr])]
  ·rw [if_neg hr]
   by_cases e : m = n
   ·subst e
    rw [b6 hn, if_pos rfl, if_pos (by simp)]
   ·rw [if_neg (by simp [hr]; omega)]
    by_cases hm : m < l.length
    ·rw [b6 hm, if_neg e]
    ·rw [List.set_eq_of_length_le (by omega)]
section
variable {c : Ci} {s : Ns} {w : Nat → Bool}
theorem vI (hc : bR c) {p n : Nat} (hp : p < c.procs.length) {f : Fi} {k : Nat} (hk : k ≤ (ay c p).takes.length) (h : n ∈ fA (ay c p) f k) : n < c.chans.length ∧ (gx c n).dst = p := by
 obtain ⟨j, h1, h2, rfl⟩ := me h
 obtain ⟨k1, k2, k3, k4⟩ := hc.tk p hp j (by omega)
 exact ⟨by show (kS (ay c p) j).chan.toNat < _; omega, k4⟩
theorem Ae (hc : bR c) {p : Nat} {e : Nat × Int} (hp : p < c.procs.length) {f : Fi} {k : Nat} (hk : k ≤ (ay c p).puts.length) (h : e ∈ fT (ay c p) f k) : e.1 < c.chans.length ∧ (gx c e.1).frm = p := by
 obtain ⟨j, h1, h2, h3, h4⟩ := py h
 obtain ⟨k1, k2, k3, k4⟩ := hc.pt p hp j (by omega)
 rw [← h3]
 exact ⟨by show (qW (ay c p) j).chan.toNat < _; omega, k4⟩
theorem mf (hc : bR c) {p : Nat} (n : Nat) (hp : p < c.procs.length) {f : Fi} : ∀ {k : Nat}, k ≤ (ay c p).takes.length → (fA (ay c p) f k).count n = if n ∈ fA (ay c p) f k then 1 else 0
 | 0, _ => by simp [fA]
 | k + 1, hk => by
  have ih := mf hc n hp (f := f) (k := k) (by omega)
  rw [fA, List.count_append, ih]
  by_cases h1 : f.pops.getD k false = true
  ·rw [if_pos h1]
   by_cases e : cf (ay c p) k = n
   ·have : n ∉ fA (ay c p) f k := by
     intro hm
     obtain ⟨j, g1, g2, g3⟩ := me hm
     have := hc.td p hp j k (by omega) (by omega) (by rw [g3, e])
     omega
    rw [if_neg this, e, List.count_singleton_self, if_pos (List.mem_append_right _ (List.mem_singleton.2 rfl))]
   ·have e3 : ([cf (ay c p) k]).count n = 0 := List.count_eq_zero.2 (by rw [List.mem_singleton]; exact fun h => e h.symm)
    rw [e3, Nat.add_zero]
    by_cases hm : n ∈ fA (ay c p) f k
    ·rw [if_pos hm, if_pos (List.mem_append_left _ hm)]
    ·rw [if_neg hm, if_neg]
     intro h
     rcases List.mem_append.1 h with h | h
     ·exact hm h
     ·exact e (List.mem_singleton.1 h).symm
  ·rw [if_neg h1, List.append_nil]; rfl
theorem xc {n : Nat} : ∀ {P : Nat}, n ∈ eZ c s w P → ∃ p, p < P ∧ ai c s w p = true ∧ n ∈ fA (ay c p) (ab c s p) (ay c p).takes.length
 | 0, h => by cases h
 | P + 1, h => by
  rw [eZ, List.mem_append] at h
  rcases h with h | h
  ·obtain ⟨j, h1, h2⟩ := xc h; exact ⟨j, by omega, h2⟩
  ·split at h
   ·rename_i hh; exact ⟨P, by omega, hh, h⟩
   ·cases h
theorem nU (hc : bR c) (n : Nat) : ∀ {P : Nat}, P ≤ c.procs.length → (eZ c s w P).count n = if fK c n < P then dt c s w n else 0
 | 0, _ => by simp [eZ]
 | P + 1, hP => by
  have ih := nU hc n (P := P) (by omega)
  rw [eZ, List.count_append, ih]
  by_cases hd : fK c n = P
  ·rw [if_neg (show ¬fK c n < P by omega), if_pos (show fK c n < P + 1 by omega), dt, hd, Nat.zero_add]
   by_cases hf : ai c s w P = true
   ·rw [if_pos hf, mf hc n (by omega) (Nat.le_refl _)]
    simp [jk, hf]
   ·rw [if_neg hf]; simp [hf]
  ·have h0 : (if ai c s w P = true then fA (ay c P) (ab c s P) (ay c P).takes.length else []).count n = 0 := by
    split
    ·rw [mf hc n (by omega) (Nat.le_refl _), if_neg]
     intro hm
     have := (vI hc (by omega) (Nat.le_refl _) hm).2
     exact hd (by rw [fK, this]; rfl)
    ·rfl
   rw [h0]
   by_cases h1 : fK c n < P
   ·rw [if_pos h1, if_pos (show fK c n < P + 1 by omega)]; rfl
   ·rw [if_neg h1, if_neg (show ¬fK c n < P + 1 by omega)]
theorem Ds (hc : bR c) {p n : Nat} (h : jk c s p n = true) : p < c.procs.length := by
 by_cases hp : p < c.procs.length
 ·exact hp
 ·unfold jk at h
  have e : ay c p = av := by rw [ay, List.getD, List.getElem?_eq_none (by omega)]; rfl
  rw [e] at h
  simp [fA] at h
theorem vJ (hc : bR c) (n : Nat) : (if fK c n < c.procs.length then dt c s w n else 0) = dt c s w n := by
 split
 ·rfl
 ·rename_i h
  rw [dt, if_neg]
  rintro ⟨_, h2⟩
  exact h (Ds hc h2)
theorem Af (hc : bR c) {p n : Nat} (hp : p < c.procs.length) (hd : ¬gX c n = p) (f : Fi) : (fT (ay c p) f (ay c p).puts.length).filter (fun e => e.1 == n) = [] := by
 rw [List.filter_eq_nil_iff]
 intro e he h
 have h1 : e.1 = n := by simpa using h
 have := (Ae hc hp (Nat.le_refl _) he).2
 rw [h1] at this
 exact hd (by rw [gX, this]; rfl)
theorem pz (hc : bR c) (n : Nat) : ∀ {P : Nat}, P ≤ c.procs.length → ((iT c s w P).filter (fun e => e.1 == n)).map (·.2) = if gX c n < P then dk c s w n else []
 | 0, _ => by simp [iT]
 | P + 1, hP => by
  have ih := pz hc n (P := P) (by omega)
  rw [iT, List.filter_append, List.map_append, ih]
  by_cases hd : gX c n = P
  ·rw [if_neg (show ¬gX c n < P by omega), if_pos (show gX c n < P + 1 by omega), dk, hd]
   by_cases hf : ai c s w P = true
   ·rw [if_pos hf, if_pos hf]; rfl
   ·rw [if_neg hf, if_neg hf]; rfl
  ·have h0 : (if ai c s w P = true then fT (ay c P) (ab c s P) (ay c P).puts.length else []).filter (fun e => e.1 == n) = [] := by
    split
    ·exact Af hc (by omega) hd _
    ·rfl
   rw [h0]
   by_cases h1 : gX c n < P
   ·rw [if_pos h1, if_pos (show gX c n < P + 1 by omega)]; exact List.append_nil _
   ·rw [if_neg h1, if_neg (show ¬gX c n < P + 1 by omega)]; rfl
theorem lz {p n : Nat} (hp : ¬p < c.procs.length) : tx c s p n = [] := by
 have e : ay c p = av := by rw [ay, List.getD, List.getElem?_eq_none (by omega)]; rfl
 unfold tx
 rw [e]; rfl
theorem rD (n : Nat) : (if gX c n < c.procs.length then dk c s w n else []) = dk c s w n := by
 split
 ·rfl
 ·rename_i h
  rw [dk]
  split
  ·rw [lz h]
  ·rfl
theorem un (hc : bR c) (hs : s.chans.length = c.chans.length) : a6 (aN s.chans (eZ c s w c.procs.length)) (iT c s w c.procs.length) = (aD c s w).chans := by
 refine pg (d := []) ?_ (fun n hn => ?_)
 ·rw [ct, bf, aD, aM, hs]
 ·rw [ct, bf] at hn
  rw [ly _ _ _ (by rw [bf]; exact hn), gr _ _ _ hn, nU hc n (Nat.le_refl _), pz hc n (Nat.le_refl _), vJ hc, rD]
  show _ = (an (ff c s w) c.chans.length).getD n []
  rw [bA (by omega)]
  rfl
end
end Go.Proofs.YtifoecfajmnjjaaGreat
