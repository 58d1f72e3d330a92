/-
  Circuits, plain data: what firing does, channel by channel.
-/
import Derived.Test.YtifoecfajmnjjaaGreatQNeA
namespace Go.Proofs.YtifoecfajmnjjaaGreat
open Go.RowKit
set_option linter.unusedVariables false
set_option linter.unusedSimpArgs false
structure Ch where
 name : ByteArray
 w : Int
 cap : Int
 frm : Int
 dst : Int
abbrev ba : Ch := ⟨e0, 0, 0, 0, 0⟩
structure Ci where
 procs : List Pr
 chans : List Ch
structure Ns where
 procs : List Ps
 chans : List (List Int)
def jy (c : Ch) : List V := [.str c.name, .int .i64 c.w, .int .i64 c.cap, .int .i64 c.frm, .int .i64 c.dst]
abbrev Jk : Ns := ⟨[], []⟩
abbrev aB (c : Ci) (i : Nat) : Pr := c.procs.getD i ay
abbrev fk (c : Ci) (n : Nat) : Ch := c.chans.getD n ba
abbrev xw (s : Ns) (i : Nat) : Ps := s.procs.getD i aU
abbrev gj (s : Ns) (n : Nat) : List Int := s.chans.getD n []
abbrev cR (p : Pr) (j : Nat) : Nat := (nN p j).chan.toNat
abbrev cC (p : Pr) (j : Nat) : Nat := (uI p j).chan.toNat
structure bo (c : Ci) : Prop where
 n1 : 1 ≤ c.procs.length
 nl : c.procs.length ≤ 100
 cl : c.chans.length ≤ 100
 pr : ∀ i, i < c.procs.length → iA (aB c i)
 tk : ∀ i, i < c.procs.length → ∀ j, j < (aB c i).takes.length → 0 ≤ (nN (aB c i) j).chan ∧ (nN (aB c i) j).chan < c.chans.length ∧ (fk c (cR (aB c i) j)).w = (nN (aB c i) j).w ∧ (fk c (cR (aB c i) j)).dst = i
 pt : ∀ i, i < c.procs.length → ∀ j, j < (aB c i).puts.length → 0 ≤ (uI (aB c i) j).chan ∧ (uI (aB c i) j).chan < c.chans.length ∧ (fk c (cC (aB c i) j)).w = (uI (aB c i) j).w ∧ (fk c (cC (aB c i) j)).frm = i
 td : ∀ i, i < c.procs.length → ∀ j k, j < (aB c i).takes.length → k < (aB c i).takes.length → cR (aB c i) j = cR (aB c i) k → j = k
 pd : ∀ i, i < c.procs.length → ∀ j k, j < (aB c i).puts.length → k < (aB c i).puts.length → cC (aB c i) j = cC (aB c i) k → j = k
 cw : ∀ n, n < c.chans.length → aA (fk c n).w = true
 cp : ∀ n, n < c.chans.length → 0 ≤ (fk c n).cap
def cg (l : List Int) (w : Int) : Bool := eo (fun i => cS (l.getD i 0) w) l.length
def jz (c : Ci) (s : Ns) (n : Nat) : Bool := cg (gj s n) (fk c n).w && (!(decide (0 ≤ (fk c n).frm) && decide (0 ≤ (fk c n).dst)) || decide (((gj s n).length : Int) ≤ (fk c n).cap))
def aP (c : Ci) (s : Ns) : Bool := decide (s.procs.length = c.procs.length) && decide (s.chans.length = c.chans.length) && eo (fun i => bO (aB c i) (xw s i)) c.procs.length && eo (jz c s) c.chans.length
structure bN (c : Ci) (s : Ns) : Prop where
 pl : s.procs.length = c.procs.length
 cl : s.chans.length = c.chans.length
 pv : ∀ i, i < c.procs.length → rb (aB c i) (xw s i)
 cv : ∀ n, n < c.chans.length → ∀ i, i < (gj s n).length → eF ((gj s n).getD i 0) (fk c n).w
 cc : ∀ n, n < c.chans.length → 0 ≤ (fk c n).frm → 0 ≤ (fk c n).dst → ((gj s n).length : Int) ≤ (fk c n).cap
theorem wD {l : List Int} {w : Int} : cg l w = true ↔ ∀ i, i < l.length → eF (l.getD i 0) w := by
 unfold cg
 simp only [ce, A8]
theorem bE {c : Ci} {s : Ns} : aP c s = true ↔ bN c s := by
 unfold aP jz
 simp only [Bool.and_eq_true, decide_eq_true_eq, ce, F6, wD, Bool.or_eq_true, Bool.not_eq_true', Bool.and_eq_false_iff, decide_eq_false_iff_not]
 constructor
 ·rintro ⟨⟨⟨h1, h2⟩, h3⟩, h4⟩
  refine ⟨h1, h2, h3, fun n hn => (h4 n hn).1, fun n hn ha hb => ?_⟩
  rcases (h4 n hn).2 with (h | h) | h
  ·exact absurd ha h
  ·exact absurd hb h
  ·exact h
 ·intro h
  refine ⟨⟨⟨h.pl, h.cl⟩, h.pv⟩, fun n hn => ⟨h.cv n hn, ?_⟩⟩
  by_cases ha : 0 ≤ (fk c n).frm
  ·by_cases hb : 0 ≤ (fk c n).dst
   ·exact .inr (h.cc n hn ha hb)
   ·exact .inl (.inr hb)
  ·exact .inl (.inl ha)
def cH (c : Ci) (s : Ns) (p j : Nat) : Hd := if 0 < (gj s (cR (aB c p) j)).length then ⟨true, (gj s (cR (aB c p) j)).getD 0 0⟩ else aK
def cT (c : Ci) (s : Ns) (p : Nat) : List Hd := ao (cH c s p) (aB c p).takes.length
def cI (c : Ci) (s : Ns) (p j : Nat) : Bool := decide ((fk c (cC (aB c p) j)).dst = -1) || decide (((gj s (cC (aB c p) j)).length : Int) < (fk c (cC (aB c p) j)).cap)
def dK (c : Ci) (s : Ns) (p : Nat) : List Bool := ao (cI c s p) (aB c p).puts.length
def ac (c : Ci) (s : Ns) (p : Nat) : Fi := aY (aB c p) (xw s p) (cT c s p) (dK c s p)
def dD (c : Ci) (s : Ns) (p : Nat) : Bool := (ac c s p).fires
def bp (c : Ci) (s : Ns) (p : Int) : Bool := decide (0 ≤ p) && (decide (p < c.procs.length) && dD c s p.toNat)
theorem wE (c : Ci) (s : Ns) (p : Nat) : dD c s p = ig (aB c p) (xw s p) (cT c s p) (dK c s p) := C3 _ _ _ _
theorem oM {c : Ci} {s : Ns} (hc : bo c) (hs : bN c s) {p : Nat} (hp : p < c.procs.length) : Ba (aB c p) (cT c s p) where
 l := by rw [cT, aN]
 v := fun i hi hh => by
  rw [cT, bf hi] at hh ⊢
  unfold cH at hh ⊢
  split
  ·rename_i h0
   obtain ⟨k1, k2, k3, k4⟩ := hc.tk p hp i hi
   have := hs.cv (cR (aB c p) i) (by show (nN (aB c p) i).chan.toNat < _; omega) 0 h0
   rw [k3] at this
   exact this
  ·rename_i h0; rw [if_neg h0] at hh; cases hh
def ij (p : Pr) (f : Fi) : Nat → List Nat
 | 0 => []
 | k + 1 => ij p f k ++ (if f.pops.getD k false = true then [cR p k] else [])
def iL (p : Pr) (f : Fi) : Nat → List (Nat × Int)
 | 0 => []
 | k + 1 => iL p f k ++ (if (f.puts.getD k aK).has = true then [(cC p k, (f.puts.getD k aK).v)] else [])
def ai (c : Ci) (s : Ns) (w : Nat → Bool) (p : Nat) : Bool := w p && dD c s p
def gO (c : Ci) (s : Ns) (w : Nat → Bool) : Nat → List Nat
 | 0 => []
 | p + 1 => gO c s w p ++ (if ai c s w p = true then ij (aB c p) (ac c s p) (aB c p).takes.length else [])
def lf (c : Ci) (s : Ns) (w : Nat → Bool) : Nat → List (Nat × Int)
 | 0 => []
 | p + 1 => lf c s w p ++ (if ai c s w p = true then iL (aB c p) (ac c s p) (aB c p).puts.length else [])
def aV (l : List (List Int)) (ev : List Nat) : List (List Int) := ev.foldl (fun l n => l.set n ((l.getD n []).drop 1)) l
def bk (l : List (List Int)) (ev : List (Nat × Int)) : List (List Int) := ev.foldl (fun l e => l.set e.1 (l.getD e.1 [] ++ [e.2])) l
def eu (l : List Int) (ev : List Nat) : List Int := ev.foldl (fun l n => l.set n 1) l
def ee (l : List (Option Int)) (ev : List (Nat × Int)) : List (Option Int) := ev.foldl (fun l e => l.set e.1 (some e.2)) l
def gg (c : Ci) (s : Ns) (p n : Nat) : Bool := decide (n ∈ ij (aB c p) (ac c s p) (aB c p).takes.length)
def tQ (c : Ci) (s : Ns) (p n : Nat) : List Int := ((iL (aB c p) (ac c s p) (aB c p).puts.length).filter (fun e => e.1 == n)).map (·.2)
def fu (c : Ci) (n : Nat) : Nat := (fk c n).dst.toNat
def fh (c : Ci) (n : Nat) : Nat := (fk c n).frm.toNat
def dc (c : Ci) (s : Ns) (w : Nat → Bool) (n : Nat) : Nat := if ai c s w (fu c n) = true ∧ gg c s (fu c n) n = true then 1 else 0
def cL (c : Ci) (s : Ns) (w : Nat → Bool) (n : Nat) : List Int := if ai c s w (fh c n) = true then tQ c s (fh c n) n else []
def dp (c : Ci) (s : Ns) (w : Nat → Bool) (n : Nat) : List Int := (gj s n).drop (dc c s w n) ++ cL c s w n
def bZ (c : Ci) (s : Ns) (w : Nat → Bool) (p : Nat) : Ps := if ai c s w p = true then (ac c s p).s else xw s p
def ak (c : Ci) (s : Ns) (w : Nat → Bool) : Ns := ⟨ao (bZ c s w) c.procs.length, ao (dp c s w) c.chans.length⟩
theorem pE {p : Pr} {f : Fi} {n : Nat} : ∀ {k : Nat}, n ∈ ij p f k → ∃ j, j < k ∧ f.pops.getD j false = true ∧ cR p j = n
 | 0, h => by cases h
 | k + 1, h => by
  rw [ij, List.mem_append] at h
  rcases h with h | h
  ·obtain ⟨j, h1, h2⟩ := pE h; exact ⟨j, by omega, h2⟩
  ·split at h
   ·rename_i hh; simp only [List.mem_singleton] at h; exact ⟨k, by omega, hh, h.symm⟩
   ·cases h
theorem ss {p : Pr} {f : Fi} {e : Nat × Int} : ∀ {k : Nat}, e ∈ iL p f k → ∃ j, j < k ∧ (f.puts.getD j aK).has = true ∧ cC p j = e.1 ∧ (f.puts.getD j aK).v = e.2
 | 0, h => by cases h
 | k + 1, h => by
  rw [iL, List.mem_append] at h
  rcases h with h | h
  ·obtain ⟨j, h1, h2⟩ := ss h; exact ⟨j, by omega, h2⟩
  ·split at h
   ·rename_i hh; simp only [List.mem_singleton] at h; subst h; exact ⟨k, by omega, hh, rfl, rfl⟩
   ·cases h
theorem bv (ev : List Nat) : ∀ (l : List (List Int)), (aV l ev).length = l.length := by
 induction ev with
 | nil => intro l; rfl
 | cons n r ih => intro l; show (aV _ r).length = _; rw [ih]; simp
theorem de (ev : List (Nat × Int)) : ∀ (l : List (List Int)), (bk l ev).length = l.length := by
 induction ev with
 | nil => intro l; rfl
 | cons n r ih => intro l; show (bk _ r).length = _; rw [ih]; simp
theorem uK (ev : List Nat) : ∀ (l : List Int), (eu l ev).length = l.length := by
 induction ev with
 | nil => intro l; rfl
 | cons n r ih => intro l; show (eu _ r).length = _; rw [ih]; simp
theorem uL (ev : List (Nat × Int)) : ∀ (l : List (Option Int)), (ee l ev).length = l.length := by
 induction ev with
 | nil => intro l; rfl
 | cons n r ih => intro l; show (ee _ r).length = _; rw [ih]; simp
theorem mQ (l : List (List Int)) (ev : List Nat) (n : Nat) : aV l (ev ++ [n]) = (aV l ev).set n (((aV l ev).getD n []).drop 1) := by simp [aV, List.foldl_append]
theorem mR (l : List (List Int)) (ev : List (Nat × Int)) (n : Nat) (v : Int) : bk l (ev ++ [(n, v)]) = (bk l ev).set n ((bk l ev).getD n [] ++ [v]) := by simp [bk, List.foldl_append]
theorem zJ (l : List Int) (ev : List Nat) (n : Nat) : eu l (ev ++ [n]) = (eu l ev).set n 1 := by simp [eu, List.foldl_append]
theorem zK (l : List (Option Int)) (ev : List (Nat × Int)) (n : Nat) (v : Int) : ee l (ev ++ [(n, v)]) = (ee l ev).set n (some v) := by simp [ee, List.foldl_append]
theorem ji (ev : List Nat) : ∀ (l : List (List Int)) (n : Nat), n < l.length → (aV l ev).getD n [] = (l.getD n []).drop (ev.count n) := by
 induction ev with
 | nil => intro l n hn; simp [aV]
 | cons m r ih =>
  intro l n hn
  show (aV (l.set m _) r).getD n [] = _
  rw [ih _ n (by simpa using hn), List.count_cons]
  by_cases e : m = n
  ·subst e
   rw [b6 hn, if_pos rfl, List.drop_drop]
   simp [Nat.add_comm]
  ·by_cases hm : m < l.length
   ·rw [b6 hm, if_neg e]; simp [e]
   ·rw [List.set_eq_of_length_le (by omega)]; simp [e]
theorem oO (ev : List (Nat × Int)) : ∀ (l : List (List Int)) (n : Nat), n < l.length → (bk l ev).getD n [] = l.getD n [] ++ (ev.filter (fun e => e.1 == n)).map (·.2) := by
 induction ev with
 | nil => intro l n hn; simp [bk]
 | cons m r ih =>
  intro l n hn
  show (bk (l.set m.1 _) r).getD n [] = _
  rw [ih _ n (by simpa using hn)]
  by_cases e : m.1 = n
  ·subst e
   rw [b6 hn, if_pos rfl]
   simp
  ·by_cases hm : m.1 < l.length
   ·rw [b6 hm, if_neg e]; simp [e]
   ·rw [List.set_eq_of_length_le (by omega)]; simp [e]
theorem Be (ev : List Nat) : ∀ (l : List Int) (n : Nat), n < l.length → (eu l ev).getD n 0 = if n ∈ ev then 1 else l.getD n 0 := by
 induction ev with
 | nil => intro l n hn; simp [eu]
 | cons m r ih =>
  intro l n hn
  show (eu (l.set m _) r).getD n 0 = _
  rw [ih _ n (by simpa using hn)]
  by_cases hr : n ∈ r
  ·rw [if_pos hr, if_pos (by simp [hr])]
  ·rw [if_neg hr]
   by_cases e : m = n
   ·subst e
    rw [b6 hn, if_pos rfl, if_pos (by simp)]
   ·rw [if_neg (by simp [hr]; omega)]
    by_cases hm : m < l.length
    ·rw [b6 hm, if_neg e]
    ·rw [List.set_eq_of_length_le (by omega)]
section
variable {c : Ci} {s : Ns} {w : Nat → Bool}
theorem zL (hc : bo c) {p n : Nat} (hp : p < c.procs.length) {f : Fi} {k : Nat} (hk : k ≤ (aB c p).takes.length) (h : n ∈ ij (aB c p) f k) : n < c.chans.length ∧ (fk c n).dst = p := by
 obtain ⟨j, h1, h2, rfl⟩ := pE h
 obtain ⟨k1, k2, k3, k4⟩ := hc.tk p hp j (by omega)
 exact ⟨by show (nN (aB c p) j).chan.toNat < _; omega, k4⟩
theorem EI (hc : bo c) {p : Nat} {e : Nat × Int} (hp : p < c.procs.length) {f : Fi} {k : Nat} (hk : k ≤ (aB c p).puts.length) (h : e ∈ iL (aB c p) f k) : e.1 < c.chans.length ∧ (fk c e.1).frm = p := by
 obtain ⟨j, h1, h2, h3, h4⟩ := ss h
 obtain ⟨k1, k2, k3, k4⟩ := hc.pt p hp j (by omega)
 rw [← h3]
 exact ⟨by show (uI (aB c p) j).chan.toNat < _; omega, k4⟩
theorem pF (hc : bo c) {p : Nat} (n : Nat) (hp : p < c.procs.length) {f : Fi} : ∀ {k : Nat}, k ≤ (aB c p).takes.length → (ij (aB c p) f k).count n = if n ∈ ij (aB c p) f k then 1 else 0
 | 0, _ => by simp [ij]
 | k + 1, hk => by
  have ih := pF hc n hp (f := f) (k := k) (by omega)
  rw [ij, List.count_append, ih]
  by_cases h1 : f.pops.getD k false = true
  ·rw [if_pos h1]
   by_cases e : cR (aB c p) k = n
   ·have : n ∉ ij (aB c p) f k := by
     intro hm
     obtain ⟨j, g1, g2, g3⟩ := pE hm
     have := hc.td p hp j k (by omega) (by omega) (by rw [g3, e])
     omega
    rw [if_neg this, e, List.count_singleton_self, if_pos (List.mem_append_right _ (List.mem_singleton.2 rfl))]
   ·have e3 : ([cR (aB c p) k]).count n = 0 := List.count_eq_zero.2 (by rw [List.mem_singleton]; exact fun h => e h.symm)
    rw [e3, Nat.add_zero]
    by_cases hm : n ∈ ij (aB c p) f k
    ·rw [if_pos hm, if_pos (List.mem_append_left _ hm)]
    ·rw [if_neg hm, if_neg]
     intro h
     rcases List.mem_append.1 h with h | h
     ·exact hm h
     ·exact e (List.mem_singleton.1 h).symm
  ·rw [if_neg h1, List.append_nil]; rfl
theorem Bf {n : Nat} : ∀ {P : Nat}, n ∈ gO c s w P → ∃ p, p < P ∧ ai c s w p = true ∧ n ∈ ij (aB c p) (ac c s p) (aB c p).takes.length
 | 0, h => by cases h
 | P + 1, h => by
  rw [gO, List.mem_append] at h
  rcases h with h | h
  ·obtain ⟨j, h1, h2⟩ := Bf h; exact ⟨j, by omega, h2⟩
  ·split at h
   ·rename_i hh; exact ⟨P, by omega, hh, h⟩
   ·cases h
theorem rf (hc : bo c) (n : Nat) : ∀ {P : Nat}, P ≤ c.procs.length → (gO c s w P).count n = if fu c n < P then dc c s w n else 0
 | 0, _ => by simp [gO]
 | P + 1, hP => by
  have ih := rf hc n (P := P) (by omega)
  rw [gO, List.count_append, ih]
  by_cases hd : fu c n = P
  ·rw [if_neg (show ¬fu c n < P by omega), if_pos (show fu c n < P + 1 by omega), dc, hd, Nat.zero_add]
   by_cases hf : ai c s w P = true
   ·rw [if_pos hf, pF hc n (by omega) (Nat.le_refl _)]
    simp [gg, hf]
   ·rw [if_neg hf]; simp [hf]
  ·have h0 : (if ai c s w P = true then ij (aB c P) (ac c s P) (aB c P).takes.length else []).count n = 0 := by
    split
    ·rw [pF hc n (by omega) (Nat.le_refl _), if_neg]
     intro hm
     have := (zL hc (by omega) (Nat.le_refl _) hm).2
     exact hd (by rw [fu, this]; rfl)
    ·rfl
   rw [h0]
   by_cases h1 : fu c n < P
   ·rw [if_pos h1, if_pos (show fu c n < P + 1 by omega)]; rfl
   ·rw [if_neg h1, if_neg (show ¬fu c n < P + 1 by omega)]
theorem H7 (hc : bo c) {p n : Nat} (h : gg c s p n = true) : p < c.procs.length := by
 by_cases hp : p < c.procs.length
 ·exact hp
 ·unfold gg at h
  have e : aB c p = ay := by rw [aB, List.getD, List.getElem?_eq_none (by omega)]; rfl
  rw [e] at h
  simp [ij] at h
theorem zM (hc : bo c) (n : Nat) : (if fu c n < c.procs.length then dc c s w n else 0) = dc c s w n := by
 split
 ·rfl
 ·rename_i h
  rw [dc, if_neg]
  rintro ⟨_, h2⟩
  exact h (H7 hc h2)
theorem EJ (hc : bo c) {p n : Nat} (hp : p < c.procs.length) (hd : ¬fh c n = p) (f : Fi) : (iL (aB c p) f (aB c p).puts.length).filter (fun e => e.1 == n) = [] := by
 rw [List.filter_eq_nil_iff]
 intro e he h
 have h1 : e.1 = n := by simpa using h
 have := (EI hc hp (Nat.le_refl _) he).2
 rw [h1] at this
 exact hd (by rw [fh, this]; rfl)
theorem su (hc : bo c) (n : Nat) : ∀ {P : Nat}, P ≤ c.procs.length → ((lf c s w P).filter (fun e => e.1 == n)).map (·.2) = if fh c n < P then cL c s w n else []
 | 0, _ => by simp [lf]
 | P + 1, hP => by
  have ih := su hc n (P := P) (by omega)
  rw [lf, List.filter_append, List.map_append, ih]
  by_cases hd : fh c n = P
  ·rw [if_neg (show ¬fh c n < P by omega), if_pos (show fh c n < P + 1 by omega), cL, hd]
   by_cases hf : ai c s w P = true
   ·rw [if_pos hf, if_pos hf]; rfl
   ·rw [if_neg hf, if_neg hf]; rfl
  ·have h0 : (if ai c s w P = true then iL (aB c P) (ac c s P) (aB c P).puts.length else []).filter (fun e => e.1 == n) = [] := by
    split
    ·exact EJ hc (by omega) hd _
    ·rfl
   rw [h0]
   by_cases h1 : fh c n < P
   ·rw [if_pos h1, if_pos (show fh c n < P + 1 by omega)]; exact List.append_nil _
   ·rw [if_neg h1, if_neg (show ¬fh c n < P + 1 by omega)]; rfl
theorem oP {p n : Nat} (hp : ¬p < c.procs.length) : tQ c s p n = [] := by
 have e : aB c p = ay := by rw [aB, List.getD, List.getElem?_eq_none (by omega)]; rfl
 unfold tQ
 rw [e]; rfl
theorem vn (n : Nat) : (if fh c n < c.procs.length then cL c s w n else []) = cL c s w n := by
 split
 ·rfl
 ·rename_i h
  rw [cL]
  split
  ·rw [oP h]
  ·rfl
theorem yk (hc : bo c) (hs : s.chans.length = c.chans.length) : bk (aV s.chans (gO c s w c.procs.length)) (lf c s w c.procs.length) = (ak c s w).chans := by
 refine ky (d := []) ?_ (fun n hn => ?_)
 ·rw [de, bv, ak, aN, hs]
 ·rw [de, bv] at hn
  rw [oO _ _ _ (by rw [bv]; exact hn), ji _ _ _ hn, rf hc n (Nat.le_refl _), su hc n (Nat.le_refl _), zM hc, vn]
  show _ = (ao (dp c s w) c.chans.length).getD n []
  rw [bf (by omega)]
  rfl
end
end Go.Proofs.YtifoecfajmnjjaaGreat
