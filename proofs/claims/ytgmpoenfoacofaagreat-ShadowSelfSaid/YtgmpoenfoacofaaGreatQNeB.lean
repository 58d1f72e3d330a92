/-
  Circuits, plain data: what firing does, channel by channel.
-/
import Derived.Test.YtgmpoenfoacofaaGreatQNeA
namespace Go.Proofs.YtgmpoenfoacofaaGreat
open Go.RowKit
set_option linter.unusedVariables false
set_option linter.unusedSimpArgs false
structure Ch where
 name : ByteArray
 w : Int
 cap : Int
 frm : Int
 dst : Int
abbrev ba : Ch := ⟨e0, 0, 0, 0, 0⟩
structure Ci where
 procs : List Pr
 chans : List Ch
structure Ns where
 procs : List Ps
 chans : List (List Int)
def eY (c : Ch) : List V := [.str c.name, .int .i64 c.w, .int .i64 c.cap, .int .i64 c.frm, .int .i64 c.dst]
abbrev FF : Ns := ⟨[], []⟩
abbrev bI (c : Ci) (i : Nat) : Pr := c.procs.getD i av
abbrev cL (c : Ci) (n : Nat) : Ch := c.chans.getD n ba
abbrev xy (s : Ns) (i : Nat) : Ps := s.procs.getD i bw
abbrev ef (s : Ns) (n : Nat) : List Int := s.chans.getD n []
abbrev vb (p : Pr) (j : Nat) : Nat := (kJ p j).chan.toNat
abbrev uW (p : Pr) (j : Nat) : Nat := (rD p j).chan.toNat
structure a8 (c : Ci) : Prop where
 n1 : 1 ≤ c.procs.length
 nl : c.procs.length ≤ 100
 cl : c.chans.length ≤ 100
 pr : ∀ i, i < c.procs.length → fV (bI c i)
 tk : ∀ i, i < c.procs.length → ∀ j, j < (bI c i).takes.length → 0 ≤ (kJ (bI c i) j).chan ∧ (kJ (bI c i) j).chan < c.chans.length ∧ (cL c (vb (bI c i) j)).w = (kJ (bI c i) j).w ∧ (cL c (vb (bI c i) j)).dst = i
 pt : ∀ i, i < c.procs.length → ∀ j, j < (bI c i).puts.length → 0 ≤ (rD (bI c i) j).chan ∧ (rD (bI c i) j).chan < c.chans.length ∧ (cL c (uW (bI c i) j)).w = (rD (bI c i) j).w ∧ (cL c (uW (bI c i) j)).frm = i
 td : ∀ i, i < c.procs.length → ∀ j k, j < (bI c i).takes.length → k < (bI c i).takes.length → vb (bI c i) j = vb (bI c i) k → j = k
 pd : ∀ i, i < c.procs.length → ∀ j k, j < (bI c i).puts.length → k < (bI c i).puts.length → uW (bI c i) j = uW (bI c i) k → j = k
 cw : ∀ n, n < c.chans.length → am (cL c n).w = true
 cp : ∀ n, n < c.chans.length → 0 ≤ (cL c n).cap
def cE (l : List Int) (w : Int) : Bool := cB (fun i => c8 (l.getD i 0) w) l.length
def ip (c : Ci) (s : Ns) (n : Nat) : Bool := cE (ef s n) (cL c n).w && (!(decide (0 ≤ (cL c n).frm) && decide (0 ≤ (cL c n).dst)) || decide (((ef s n).length : Int) ≤ (cL c n).cap))
def bN (c : Ci) (s : Ns) : Bool := decide (s.procs.length = c.procs.length) && decide (s.chans.length = c.chans.length) && cB (fun i => bQ (bI c i) (xy s i)) c.procs.length && cB (ip c s) c.chans.length
structure bG (c : Ci) (s : Ns) : Prop where
 pl : s.procs.length = c.procs.length
 cl : s.chans.length = c.chans.length
 pv : ∀ i, i < c.procs.length → nG (bI c i) (xy s i)
 cv : ∀ n, n < c.chans.length → ∀ i, i < (ef s n).length → dz ((ef s n).getD i 0) (cL c n).w
 cc : ∀ n, n < c.chans.length → 0 ≤ (cL c n).frm → 0 ≤ (cL c n).dst → ((ef s n).length : Int) ≤ (cL c n).cap
theorem tY {l : List Int} {w : Int} : cE l w = true ↔ ∀ i, i < l.length → dz (l.getD i 0) w := by
 unfold cE
 simp only [br, y5]
theorem fx {c : Ci} {s : Ns} : bN c s = true ↔ bG c s := by
 unfold bN ip
 simp only [Bool.and_eq_true, decide_eq_true_eq, br, DD, tY, Bool.or_eq_true, Bool.not_eq_true', Bool.and_eq_false_iff, decide_eq_false_iff_not]
 constructor
 ·rintro ⟨⟨⟨h1, h2⟩, h3⟩, h4⟩
  refine ⟨h1, h2, h3, fun n hn => (h4 n hn).1, fun n hn ha hb => ?_⟩
  rcases (h4 n hn).2 with (h | h) | h
  ·exact absurd ha h
  ·exact absurd hb h
  ·exact h
 ·intro h
  refine ⟨⟨⟨h.pl, h.cl⟩, h.pv⟩, fun n hn => ⟨h.cv n hn, ?_⟩⟩
  by_cases ha : 0 ≤ (cL c n).frm
  ·by_cases hb : 0 ≤ (cL c n).dst
   ·exact .inr (h.cc n hn ha hb)
   ·exact .inl (.inr hb)
  ·exact .inl (.inl ha)
def bS (c : Ci) (s : Ns) (p j : Nat) : Hd := if 0 < (ef s (vb (bI c p) j)).length then ⟨true, (ef s (vb (bI c p) j)).getD 0 0⟩ else aU
def ck (c : Ci) (s : Ns) (p : Nat) : List Hd := tab (bS c s p) (bI c p).takes.length
def bU (c : Ci) (s : Ns) (p j : Nat) : Bool := decide ((cL c (uW (bI c p) j)).dst = -1) || decide (((ef s (uW (bI c p) j)).length : Int) < (cL c (uW (bI c p) j)).cap)
def cR (c : Ci) (s : Ns) (p : Nat) : List Bool := tab (bU c s p) (bI c p).puts.length
def ab (c : Ci) (s : Ns) (p : Nat) : Fi := aK (bI c p) (xy s p) (ck c s p) (cR c s p)
def cS (c : Ci) (s : Ns) (p : Nat) : Bool := (ab c s p).fires
def gI (c : Ci) (s : Ns) (p : Int) : Bool := decide (0 ≤ p) && (decide (p < c.procs.length) && cS c s p.toNat)
theorem tZ (c : Ci) (s : Ns) (p : Nat) : cS c s p = ff (bI c p) (xy s p) (ck c s p) (cR c s p) := AC _ _ _ _
theorem pu {c : Ci} {s : Ns} (hc : a8 c) (hs : bG c s) {p : Nat} (hp : p < c.procs.length) : y7 (bI c p) (ck c s p) where
 l := by rw [ck, aJ]
 v := fun i hi hh => by
  rw [ck, bj hi] at hh ⊢
  unfold bS at hh ⊢
  split
  ·rename_i h0
   obtain ⟨k1, k2, k3, k4⟩ := hc.tk p hp i hi
   have := hs.cv (vb (bI c p) i) (by show (kJ (bI c p) i).chan.toNat < _; omega) 0 h0
   rw [k3] at this
   exact this
  ·rename_i h0; rw [if_neg h0] at hh; cases hh
def nM (p : Pr) (f : Fi) : Nat → List Nat
 | 0 => []
 | k + 1 => nM p f k ++ (if f.pops.getD k false = true then [vb p k] else [])
def nN (p : Pr) (f : Fi) : Nat → List (Nat × Int)
 | 0 => []
 | k + 1 => nN p f k ++ (if (f.puts.getD k aU).has = true then [(uW p k, (f.puts.getD k aU).v)] else [])
def aC (c : Ci) (s : Ns) (w : Nat → Bool) (p : Nat) : Bool := w p && cS c s p
def fZ (c : Ci) (s : Ns) (w : Nat → Bool) : Nat → List Nat
 | 0 => []
 | p + 1 => fZ c s w p ++ (if aC c s w p = true then nM (bI c p) (ab c s p) (bI c p).takes.length else [])
def je (c : Ci) (s : Ns) (w : Nat → Bool) : Nat → List (Nat × Int)
 | 0 => []
 | p + 1 => je c s w p ++ (if aC c s w p = true then nN (bI c p) (ab c s p) (bI c p).puts.length else [])
def bv (l : List (List Int)) (ev : List Nat) : List (List Int) := ev.foldl (fun l n => l.set n ((l.getD n []).drop 1)) l
def b4 (l : List (List Int)) (ev : List (Nat × Int)) : List (List Int) := ev.foldl (fun l e => l.set e.1 (l.getD e.1 [] ++ [e.2])) l
def df (l : List Int) (ev : List Nat) : List Int := ev.foldl (fun l n => l.set n 1) l
def da (l : List (Option Int)) (ev : List (Nat × Int)) : List (Option Int) := ev.foldl (fun l e => l.set e.1 (some e.2)) l
def eE (c : Ci) (s : Ns) (p n : Nat) : Bool := decide (n ∈ nM (bI c p) (ab c s p) (bI c p).takes.length)
def nO (c : Ci) (s : Ns) (p n : Nat) : List Int := ((nN (bI c p) (ab c s p) (bI c p).puts.length).filter (fun e => e.1 == n)).map (·.2)
def gJ (c : Ci) (n : Nat) : Nat := (cL c n).dst.toNat
def eP (c : Ci) (n : Nat) : Nat := (cL c n).frm.toNat
def cF (c : Ci) (s : Ns) (w : Nat → Bool) (n : Nat) : Nat := if aC c s w (gJ c n) = true ∧ eE c s (gJ c n) n = true then 1 else 0
def cb (c : Ci) (s : Ns) (w : Nat → Bool) (n : Nat) : List Int := if aC c s w (eP c n) = true then nO c s (eP c n) n else []
def cy (c : Ci) (s : Ns) (w : Nat → Bool) (n : Nat) : List Int := (ef s n).drop (cF c s w n) ++ cb c s w n
def bD (c : Ci) (s : Ns) (w : Nat → Bool) (p : Nat) : Ps := if aC c s w p = true then (ab c s p).s else xy s p
def aF (c : Ci) (s : Ns) (w : Nat → Bool) : Ns := ⟨tab (bD c s w) c.procs.length, tab (cy c s w) c.chans.length⟩
theorem px {p : Pr} {f : Fi} {n : Nat} : ∀ {k : Nat}, n ∈ nM p f k → ∃ j, j < k ∧ f.pops.getD j false = true ∧ vb p j = n
 | 0, h => by cases h
 | k + 1, h => by
  rw [nM, List.mem_append] at h
  rcases h with h | h
  ·obtain ⟨j, h1, h2⟩ := px h; exact ⟨j, by omega, h2⟩
  ·split at h
   ·rename_i hh; simp only [List.mem_singleton] at h; exact ⟨k, by omega, hh, h.symm⟩
   ·cases h
theorem me {p : Pr} {f : Fi} {e : Nat × Int} : ∀ {k : Nat}, e ∈ nN p f k → ∃ j, j < k ∧ (f.puts.getD j aU).has = true ∧ uW p j = e.1 ∧ (f.puts.getD j aU).v = e.2
 | 0, h => by cases h
 | k + 1, h => by
  rw [nN, List.mem_append] at h
  rcases h with h | h
  ·obtain ⟨j, h1, h2⟩ := me h; exact ⟨j, by omega, h2⟩
  ·split at h
   ·rename_i hh; simp only [List.mem_singleton] at h; subst h; exact ⟨k, by omega, hh, rfl, rfl⟩
   ·cases h
theorem eh (ev : List Nat) : ∀ (l : List (List Int)), (bv l ev).length = l.length := by
 induction ev with
 | nil => intro l; rfl
 | cons n r ih => intro l; show (bv _ r).length = _; rw [ih]; simp
theorem iY (ev : List (Nat × Int)) : ∀ (l : List (List Int)), (b4 l ev).length = l.length := by
 induction ev with
 | nil => intro l; rfl
 | cons n r ih => intro l; show (b4 _ r).length = _; rw [ih]; simp
theorem rG (ev : List Nat) : ∀ (l : List Int), (df l ev).length = l.length := by
 induction ev with
 | nil => intro l; rfl
 | cons n r ih => intro l; show (df _ r).length = _; rw [ih]; simp
theorem rH (ev : List (Nat × Int)) : ∀ (l : List (Option Int)), (da l ev).length = l.length := by
 induction ev with
 | nil => intro l; rfl
 | cons n r ih => intro l; show (da _ r).length = _; rw [ih]; simp
theorem xz (l : List (List Int)) (ev : List Nat) (n : Nat) : bv l (ev ++ [n]) = (bv l ev).set n (((bv l ev).getD n []).drop 1) := by simp [bv, List.foldl_append]
theorem xA (l : List (List Int)) (ev : List (Nat × Int)) (n : Nat) (v : Int) : b4 l (ev ++ [(n, v)]) = (b4 l ev).set n ((b4 l ev).getD n [] ++ [v]) := by simp [b4, List.foldl_append]
theorem xB (l : List Int) (ev : List Nat) (n : Nat) : df l (ev ++ [n]) = (df l ev).set n 1 := by simp [df, List.foldl_append]
theorem xC (l : List (Option Int)) (ev : List (Nat × Int)) (n : Nat) (v : Int) : da l (ev ++ [(n, v)]) = (da l ev).set n (some v) := by simp [da, List.foldl_append]
theorem lu (ev : List Nat) : ∀ (l : List (List Int)) (n : Nat), n < l.length → (bv l ev).getD n [] = (l.getD n []).drop (ev.count n) := by
 induction ev with
 | nil => intro l n hn; simp [bv]
 | cons m r ih =>
  intro l n hn
  show (bv (l.set m _) r).getD n [] = _
  rw [ih _ n (by simpa using hn), List.count_cons]
  by_cases e : m = n
  ·subst e
   rw [bX hn, if_pos rfl, List.drop_drop]
   simp [Nat.add_comm]
  ·by_cases hm : m < l.length
   ·rw [bX hm, if_neg e]; simp [e]
   ·rw [List.set_eq_of_length_le (by omega)]; simp [e]
theorem rI (ev : List (Nat × Int)) : ∀ (l : List (List Int)) (n : Nat), n < l.length → (b4 l ev).getD n [] = l.getD n [] ++ (ev.filter (fun e => e.1 == n)).map (·.2) := by
 induction ev with
 | nil => intro l n hn; simp [b4]
 | cons m r ih =>
  intro l n hn
  show (b4 (l.set m.1 _) r).getD n [] = _
  rw [ih _ n (by simpa using hn)]
  by_cases e : m.1 = n
  ·subst e
   rw [bX hn, if_pos rfl]
   simp
  ·by_cases hm : m.1 < l.length
   ·rw [bX hm, if_neg e]; simp [e]
   ·rw [List.set_eq_of_length_le (by omega)]; simp [e]
theorem za (ev : List Nat) : ∀ (l : List Int) (n : Nat), n < l.length → (df l ev).getD n 0 = if n ∈ ev then 1 else l.getD n 0 := by
 induction ev with
 | nil => intro l n hn; simp [df]
 | cons m r ih =>
  intro l n hn
  show (df (l.set m _) r).getD n 0 = _
  rw [ih _ n (by simpa using hn)]
  by_cases hr : n ∈ r
  ·rw [if_pos hr, if_pos (by simp [hr])]
  ·rw [if_neg hr]
   by_cases e : m = n
   ·subst e
    rw [bX hn, if_pos rfl, if_pos (by simp)]
   ·rw [if_neg (by simp [hr]; omega)]
    by_cases hm : m < l.length
    ·rw [bX hm, if_neg e]
    ·rw [List.set_eq_of_length_le (by omega)]
section
variable {c : Ci} {s : Ns} {w : Nat → Bool}
theorem B2 (hc : a8 c) {p n : Nat} (hp : p < c.procs.length) {f : Fi} {k : Nat} (hk : k ≤ (bI c p).takes.length) (h : n ∈ nM (bI c p) f k) : n < c.chans.length ∧ (cL c n).dst = p := by
 obtain ⟨j, h1, h2, rfl⟩ := px h
 obtain ⟨k1, k2, k3, k4⟩ := hc.tk p hp j (by omega)
 exact ⟨by show (kJ (bI c p) j).chan.toNat < _; omega, k4⟩
theorem B3 (hc : a8 c) {p : Nat} {e : Nat × Int} (hp : p < c.procs.length) {f : Fi} {k : Nat} (hk : k ≤ (bI c p).puts.length) (h : e ∈ nN (bI c p) f k) : e.1 < c.chans.length ∧ (cL c e.1).frm = p := by
 obtain ⟨j, h1, h2, h3, h4⟩ := me h
 obtain ⟨k1, k2, k3, k4⟩ := hc.pt p hp j (by omega)
 rw [← h3]
 exact ⟨by show (rD (bI c p) j).chan.toNat < _; omega, k4⟩
theorem qK (hc : a8 c) {p : Nat} (n : Nat) (hp : p < c.procs.length) {f : Fi} : ∀ {k : Nat}, k ≤ (bI c p).takes.length → (nM (bI c p) f k).count n = if n ∈ nM (bI c p) f k then 1 else 0
 | 0, _ => by simp [nM]
 | k + 1, hk => by
  have ih := qK hc n hp (f := f) (k := k) (by omega)
  rw [nM, List.count_append, ih]
  by_cases h1 : f.pops.getD k false = true
  ·rw [if_pos h1]
   by_cases e : vb (bI c p) k = n
   ·have : n ∉ nM (bI c p) f k := by
     intro hm
     obtain ⟨j, g1, g2, g3⟩ := px hm
     have := hc.td p hp j k (by omega) (by omega) (by rw [g3, e])
     omega
    rw [if_neg this, e, List.count_singleton_self, if_pos (List.mem_append_right _ (List.mem_singleton.2 rfl))]
   ·have e3 : ([vb (bI c p) k]).count n = 0 := List.count_eq_zero.2 (by rw [List.mem_singleton]; exact fun h => e h.symm)
    rw [e3, Nat.add_zero]
    by_cases hm : n ∈ nM (bI c p) f k
    ·rw [if_pos hm, if_pos (List.mem_append_left _ hm)]
    ·rw [if_neg hm, if_neg]
     intro h
     rcases List.mem_append.1 h with h | h
     ·exact hm h
     ·exact e (List.mem_singleton.1 h).symm
  ·rw [if_neg h1, List.append_nil]; rfl
theorem zb {n : Nat} : ∀ {P : Nat}, n ∈ fZ c s w P → ∃ p, p < P ∧ aC c s w p = true ∧ n ∈ nM (bI c p) (ab c s p) (bI c p).takes.length
 | 0, h => by cases h
 | P + 1, h => by
  rw [fZ, List.mem_append] at h
  rcases h with h | h
  ·obtain ⟨j, h1, h2⟩ := zb h; exact ⟨j, by omega, h2⟩
  ·split at h
   ·rename_i hh; exact ⟨P, by omega, hh, h⟩
   ·cases h
theorem nP (hc : a8 c) (n : Nat) : ∀ {P : Nat}, P ≤ c.procs.length → (fZ c s w P).count n = if gJ c n < P then cF c s w n else 0
 | 0, _ => by simp [fZ]
 | P + 1, hP => by
  have ih := nP hc n (P := P) (by omega)
  rw [fZ, List.count_append, ih]
  by_cases hd : gJ c n = P
  ·rw [if_neg (show ¬gJ c n < P by omega), if_pos (show gJ c n < P + 1 by omega), cF, hd, Nat.zero_add]
   by_cases hf : aC c s w P = true
   ·rw [if_pos hf, qK hc n (by omega) (Nat.le_refl _)]
    simp [eE, hf]
   ·rw [if_neg hf]; simp [hf]
  ·have h0 : (if aC c s w P = true then nM (bI c P) (ab c s P) (bI c P).takes.length else []).count n = 0 := by
    split
    ·rw [qK hc n (by omega) (Nat.le_refl _), if_neg]
     intro hm
     have := (B2 hc (by omega) (Nat.le_refl _) hm).2
     exact hd (by rw [gJ, this]; rfl)
    ·rfl
   rw [h0]
   by_cases h1 : gJ c n < P
   ·rw [if_pos h1, if_pos (show gJ c n < P + 1 by omega)]; rfl
   ·rw [if_neg h1, if_neg (show ¬gJ c n < P + 1 by omega)]
theorem FG (hc : a8 c) {p n : Nat} (h : eE c s p n = true) : p < c.procs.length := by
 by_cases hp : p < c.procs.length
 ·exact hp
 ·unfold eE at h
  have e : bI c p = av := by rw [bI, List.getD, List.getElem?_eq_none (by omega)]; rfl
  rw [e] at h
  simp [nM] at h
theorem B4 (hc : a8 c) (n : Nat) : (if gJ c n < c.procs.length then cF c s w n else 0) = cF c s w n := by
 split
 ·rfl
 ·rename_i h
  rw [cF, if_neg]
  rintro ⟨_, h2⟩
  exact h (FG hc h2)
theorem Hp (hc : a8 c) {p n : Nat} (hp : p < c.procs.length) (hd : ¬eP c n = p) (f : Fi) : (nN (bI c p) f (bI c p).puts.length).filter (fun e => e.1 == n) = [] := by
 rw [List.filter_eq_nil_iff]
 intro e he h
 have h1 : e.1 = n := by simpa using h
 have := (B3 hc hp (Nat.le_refl _) he).2
 rw [h1] at this
 exact hd (by rw [eP, this]; rfl)
theorem py (hc : a8 c) (n : Nat) : ∀ {P : Nat}, P ≤ c.procs.length → ((je c s w P).filter (fun e => e.1 == n)).map (·.2) = if eP c n < P then cb c s w n else []
 | 0, _ => by simp [je]
 | P + 1, hP => by
  have ih := py hc n (P := P) (by omega)
  rw [je, List.filter_append, List.map_append, ih]
  by_cases hd : eP c n = P
  ·rw [if_neg (show ¬eP c n < P by omega), if_pos (show eP c n < P + 1 by omega), cb, hd]
   by_cases hf : aC c s w P = true
   ·rw [if_pos hf, if_pos hf]; rfl
   ·rw [if_neg hf, if_neg hf]; rfl
  ·have h0 : (if aC c s w P = true then nN (bI c P) (ab c s P) (bI c P).puts.length else []).filter (fun e => e.1 == n) = [] := by
    split
    ·exact Hp hc (by omega) hd _
    ·rfl
   rw [h0]
   by_cases h1 : eP c n < P
   ·rw [if_pos h1, if_pos (show eP c n < P + 1 by omega)]; exact List.append_nil _
   ·rw [if_neg h1, if_neg (show ¬eP c n < P + 1 by omega)]; rfl
theorem ju {p n : Nat} (hp : ¬p < c.procs.length) : nO c s p n = [] := by
 have e : bI c p = av := by rw [bI, List.getD, List.getElem?_eq_none (by omega)]; rfl
 unfold nO
 rw [e]; rfl
theorem xD (n : Nat) : (if eP c n < c.procs.length then cb c s w n else []) = cb c s w n := by
 split
 ·rfl
 ·rename_i h
  rw [cb]
  split
  ·rw [ju h]
  ·rfl
theorem DF (hc : a8 c) (hs : s.chans.length = c.chans.length) : b4 (bv s.chans (fZ c s w c.procs.length)) (je c s w c.procs.length) = (aF c s w).chans := by
 refine pi (d := []) ?_ (fun n hn => ?_)
 ·rw [iY, eh, aF, aJ, hs]
 ·rw [iY, eh] at hn
  rw [rI _ _ _ (by rw [eh]; exact hn), lu _ _ _ hn, nP hc n (Nat.le_refl _), py hc n (Nat.le_refl _), B4 hc, xD]
  show _ = (tab (cy c s w) c.chans.length).getD n []
  rw [bj (by omega)]
  rfl
end
end Go.Proofs.YtgmpoenfoacofaaGreat
