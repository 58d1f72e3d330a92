/-
  Circuits, plain data: what firing does, channel by channel.
-/
import Derived.Test.YtifoecfajmnjjaaGreatQNeA
namespace Go.Proofs.YtifoecfajmnjjaaGreat
open Go.RowKit
set_option linter.unusedVariables false
set_option linter.unusedSimpArgs false
structure Ch where
 name : ByteArray
 w : Int
 cap : Int
 frm : Int
 dst : Int
abbrev a9 : Ch := ⟨e0, 0, 0, 0, 0⟩
structure Ci where
 procs : List Pr
 chans : List Ch
structure Ns where
 procs : List Ps
 chans : List (List Int)
def iv (c : Ch) : List V := [.str c.name, .int .i64 c.w, .int .i64 c.cap, .int .i64 c.frm, .int .i64 c.dst]
abbrev HG : Ns := ⟨[], []⟩
abbrev bC (c : Ci) (i : Nat) : Pr := c.procs.getD i ao
abbrev f6 (c : Ci) (n : Nat) : Ch := c.chans.getD n a9
abbrev vp (s : Ns) (i : Nat) : Ps := s.procs.getD i bg
abbrev i4 (s : Ns) (n : Nat) : List Int := s.chans.getD n []
abbrev tb (p : Pr) (j : Nat) : Nat := (kt p j).chan.toNat
abbrev sZ (p : Pr) (j : Nat) : Nat := (qE p j).chan.toNat
structure bM (c : Ci) : Prop where
 n1 : 1 ≤ c.procs.length
 nl : c.procs.length ≤ 100
 cl : c.chans.length ≤ 100
 pr : ∀ i, i < c.procs.length → fq (bC c i)
 tk : ∀ i, i < c.procs.length → ∀ j, j < (bC c i).takes.length → 0 ≤ (kt (bC c i) j).chan ∧ (kt (bC c i) j).chan < c.chans.length ∧ (f6 c (tb (bC c i) j)).w = (kt (bC c i) j).w ∧ (f6 c (tb (bC c i) j)).dst = i
 pt : ∀ i, i < c.procs.length → ∀ j, j < (bC c i).puts.length → 0 ≤ (qE (bC c i) j).chan ∧ (qE (bC c i) j).chan < c.chans.length ∧ (f6 c (sZ (bC c i) j)).w = (qE (bC c i) j).w ∧ (f6 c (sZ (bC c i) j)).frm = i
 td : ∀ i, i < c.procs.length → ∀ j k, j < (bC c i).takes.length → k < (bC c i).takes.length → tb (bC c i) j = tb (bC c i) k → j = k
 pd : ∀ i, i < c.procs.length → ∀ j k, j < (bC c i).puts.length → k < (bC c i).puts.length → sZ (bC c i) j = sZ (bC c i) k → j = k
 cw : ∀ n, n < c.chans.length → an (f6 c n).w = true
 cp : ∀ n, n < c.chans.length → 0 ≤ (f6 c n).cap
def b9 (l : List Int) (w : Int) : Bool := de (fun i => cf (l.getD i 0) w) l.length
def gu (c : Ci) (s : Ns) (n : Nat) : Bool := b9 (i4 s n) (f6 c n).w && (!(decide (0 ≤ (f6 c n).frm) && decide (0 ≤ (f6 c n).dst)) || decide (((i4 s n).length : Int) ≤ (f6 c n).cap))
def aZ (c : Ci) (s : Ns) : Bool := decide (s.procs.length = c.procs.length) && decide (s.chans.length = c.chans.length) && de (fun i => bp (bC c i) (vp s i)) c.procs.length && de (gu c s) c.chans.length
structure cr (c : Ci) (s : Ns) : Prop where
 pl : s.procs.length = c.procs.length
 cl : s.chans.length = c.chans.length
 pv : ∀ i, i < c.procs.length → nj (bC c i) (vp s i)
 cv : ∀ n, n < c.chans.length → ∀ i, i < (i4 s n).length → dt ((i4 s n).getD i 0) (f6 c n).w
 cc : ∀ n, n < c.chans.length → 0 ≤ (f6 c n).frm → 0 ≤ (f6 c n).dst → ((i4 s n).length : Int) ≤ (f6 c n).cap
theorem Dr {l : List Int} {w : Int} : b9 l w = true ↔ ∀ i, i < l.length → dt (l.getD i 0) w := by
 unfold b9
 simp only [bP, wQ]
theorem eH {c : Ci} {s : Ns} : aZ c s = true ↔ cr c s := by
 unfold aZ gu
 simp only [Bool.and_eq_true, decide_eq_true_eq, bP, Bf, Dr, Bool.or_eq_true, Bool.not_eq_true', Bool.and_eq_false_iff, decide_eq_false_iff_not]
 constructor
 ·rintro ⟨⟨⟨h1, h2⟩, h3⟩, h4⟩
  refine ⟨h1, h2, h3, fun n hn => (h4 n hn).1, fun n hn ha hb => ?_⟩
  rcases (h4 n hn).2 with (h | h) | h
  ·exact absurd ha h
  ·exact absurd hb h
  ·exact h
 ·intro h
  refine ⟨⟨⟨h.pl, h.cl⟩, h.pv⟩, fun n hn => ⟨h.cv n hn, ?_⟩⟩
  by_cases ha : 0 ≤ (f6 c n).frm
  ·by_cases hb : 0 ≤ (f6 c n).dst
   ·exact .inr (h.cc n hn ha hb)
   ·exact .inl (.inr hb)
  ·exact .inl (.inl ha)
def bZ (c : Ci) (s : Ns) (p j : Nat) : Hd := if 0 < (i4 s (tb (bC c p) j)).length then ⟨true, (i4 s (tb (bC c p) j)).getD 0 0⟩ else aJ
def cx (c : Ci) (s : Ns) (p : Nat) : List Hd := ap (bZ c s p) (bC c p).takes.length
def b3 (c : Ci) (s : Ns) (p j : Nat) : Bool := decide ((f6 c (sZ (bC c p) j)).dst = -1) || decide (((i4 s (sZ (bC c p) j)).length : Int) < (f6 c (sZ (bC c p) j)).cap)
def c4 (c : Ci) (s : Ns) (p : Nat) : List Bool := ap (b3 c s p) (bC c p).puts.length
def aa (c : Ci) (s : Ns) (p : Nat) : Fi := aP (bC c p) (vp s p) (cx c s p) (c4 c s p)
def dG (c : Ci) (s : Ns) (p : Nat) : Bool := (aa c s p).fires
def cM (c : Ci) (s : Ns) (p : Int) : Bool := decide (0 ≤ p) && (decide (p < c.procs.length) && dG c s p.toNat)
theorem vq (c : Ci) (s : Ns) (p : Nat) : dG c s p = fe (bC c p) (vp s p) (cx c s p) (c4 c s p) := yy _ _ _ _
theorem oT {c : Ci} {s : Ns} (hc : bM c) (hs : cr c s) {p : Nat} (hp : p < c.procs.length) : wS (bC c p) (cx c s p) where
 l := by rw [cx, aR]
 v := fun i hi hh => by
  rw [cx, bj hi] at hh ⊢
  unfold bZ at hh ⊢
  split
  ·rename_i h0
   obtain ⟨k1, k2, k3, k4⟩ := hc.tk p hp i hi
   have := hs.cv (tb (bC c p) i) (by show (kt (bC c p) i).chan.toNat < _; omega) 0 h0
   rw [k3] at this
   exact this
  ·rename_i h0; rw [if_neg h0] at hh; cases hh
def kB (p : Pr) (f : Fi) : Nat → List Nat
 | 0 => []
 | k + 1 => kB p f k ++ (if f.pops.getD k false = true then [tb p k] else [])
def kE (p : Pr) (f : Fi) : Nat → List (Nat × Int)
 | 0 => []
 | k + 1 => kE p f k ++ (if (f.puts.getD k aJ).has = true then [(sZ p k, (f.puts.getD k aJ).v)] else [])
def aq (c : Ci) (s : Ns) (w : Nat → Bool) (p : Nat) : Bool := w p && dG c s p
def eI (c : Ci) (s : Ns) (w : Nat → Bool) : Nat → List Nat
 | 0 => []
 | p + 1 => eI c s w p ++ (if aq c s w p = true then kB (bC c p) (aa c s p) (bC c p).takes.length else [])
def iz (c : Ci) (s : Ns) (w : Nat → Bool) : Nat → List (Nat × Int)
 | 0 => []
 | p + 1 => iz c s w p ++ (if aq c s w p = true then kE (bC c p) (aa c s p) (bC c p).puts.length else [])
def a8 (l : List (List Int)) (ev : List Nat) : List (List Int) := ev.foldl (fun l n => l.set n ((l.getD n []).drop 1)) l
def bE (l : List (List Int)) (ev : List (Nat × Int)) : List (List Int) := ev.foldl (fun l e => l.set e.1 (l.getD e.1 [] ++ [e.2])) l
def da (l : List Int) (ev : List Nat) : List Int := ev.foldl (fun l n => l.set n 1) l
def cZ (l : List (Option Int)) (ev : List (Nat × Int)) : List (Option Int) := ev.foldl (fun l e => l.set e.1 (some e.2)) l
def eJ (c : Ci) (s : Ns) (p n : Nat) : Bool := decide (n ∈ kB (bC c p) (aa c s p) (bC c p).takes.length)
def qQ (c : Ci) (s : Ns) (p n : Nat) : List Int := ((kE (bC c p) (aa c s p) (bC c p).puts.length).filter (fun e => e.1 == n)).map (·.2)
def iA (c : Ci) (n : Nat) : Nat := (f6 c n).dst.toNat
def ff (c : Ci) (n : Nat) : Nat := (f6 c n).frm.toNat
def df (c : Ci) (s : Ns) (w : Nat → Bool) (n : Nat) : Nat := if aq c s w (iA c n) = true ∧ eJ c s (iA c n) n = true then 1 else 0
def cI (c : Ci) (s : Ns) (w : Nat → Bool) (n : Nat) : List Int := if aq c s w (ff c n) = true then qQ c s (ff c n) n else []
def cB (c : Ci) (s : Ns) (w : Nat → Bool) (n : Nat) : List Int := (i4 s n).drop (df c s w n) ++ cI c s w n
def bB (c : Ci) (s : Ns) (w : Nat → Bool) (p : Nat) : Ps := if aq c s w p = true then (aa c s p).s else vp s p
def aA (c : Ci) (s : Ns) (w : Nat → Bool) : Ns := ⟨ap (bB c s w) c.procs.length, ap (cB c s w) c.chans.length⟩
theorem oU {p : Pr} {f : Fi} {n : Nat} : ∀ {k : Nat}, n ∈ kB p f k → ∃ j, j < k ∧ f.pops.getD j false = true ∧ tb p j = n
 | 0, h => by cases h
 | k + 1, h => by
  rw [kB, List.mem_append] at h
  rcases h with h | h
  ·obtain ⟨j, h1, h2⟩ := oU h; exact ⟨j, by omega, h2⟩
  ·split at h
   ·rename_i hh; simp only [List.mem_singleton] at h; exact ⟨k, by omega, hh, h.symm⟩
   ·cases h
theorem oV {p : Pr} {f : Fi} {e : Nat × Int} : ∀ {k : Nat}, e ∈ kE p f k → ∃ j, j < k ∧ (f.puts.getD j aJ).has = true ∧ sZ p j = e.1 ∧ (f.puts.getD j aJ).v = e.2
 | 0, h => by cases h
 | k + 1, h => by
  rw [kE, List.mem_append] at h
  rcases h with h | h
  ·obtain ⟨j, h1, h2⟩ := oV h; exact ⟨j, by omega, h2⟩
  ·split at h
   ·rename_i hh; simp only [List.mem_singleton] at h; subst h; exact ⟨k, by omega, hh, rfl, rfl⟩
   ·cases h
theorem cC (ev : List Nat) : ∀ (l : List (List Int)), (a8 l ev).length = l.length := by
 induction ev with
 | nil => intro l; rfl
 | cons n r ih => intro l; show (a8 _ r).length = _; rw [ih]; simp
theorem eT (ev : List (Nat × Int)) : ∀ (l : List (List Int)), (bE l ev).length = l.length := by
 induction ev with
 | nil => intro l; rfl
 | cons n r ih => intro l; show (bE _ r).length = _; rw [ih]; simp
theorem qG (ev : List Nat) : ∀ (l : List Int), (da l ev).length = l.length := by
 induction ev with
 | nil => intro l; rfl
 | cons n r ih => intro l; show (da _ r).length = _; rw [ih]; simp
theorem qH (ev : List (Nat × Int)) : ∀ (l : List (Option Int)), (cZ l ev).length = l.length := by
 induction ev with
 | nil => intro l; rfl
 | cons n r ih => intro l; show (cZ _ r).length = _; rw [ih]; simp
theorem oW (l : List (List Int)) (ev : List Nat) (n : Nat) : a8 l (ev ++ [n]) = (a8 l ev).set n (((a8 l ev).getD n []).drop 1) := by simp [a8, List.foldl_append]
theorem oX (l : List (List Int)) (ev : List (Nat × Int)) (n : Nat) (v : Int) : bE l (ev ++ [(n, v)]) = (bE l ev).set n ((bE l ev).getD n [] ++ [v]) := by simp [bE, List.foldl_append]
theorem vt (l : List Int) (ev : List Nat) (n : Nat) : da l (ev ++ [n]) = (da l ev).set n 1 := by simp [da, List.foldl_append]
theorem vu (l : List (Option Int)) (ev : List (Nat × Int)) (n : Nat) (v : Int) : cZ l (ev ++ [(n, v)]) = (cZ l ev).set n (some v) := by simp [cZ, List.foldl_append]
theorem lg (ev : List Nat) : ∀ (l : List (List Int)) (n : Nat), n < l.length → (a8 l ev).getD n [] = (l.getD n []).drop (ev.count n) := by
 induction ev with
 | nil => intro l n hn; simp [a8]
 | cons m r ih =>
  intro l n hn
  show (a8 (l.set m _) r).getD n [] = _
  rw [ih _ n (by simpa using hn), List.count_cons]
  by_cases e : m = n
  ·subst e
   rw [b5 hn, if_pos rfl, List.drop_drop]
   simp [Nat.add_comm]
  ·by_cases hm : m < l.length
   ·rw [b5 hm, if_neg e]; simp [e]
   ·rw [List.set_eq_of_length_le (by omega)]; simp [e]
theorem qI (ev : List (Nat × Int)) : ∀ (l : List (List Int)) (n : Nat), n < l.length → (bE l ev).getD n [] = l.getD n [] ++ (ev.filter (fun e => e.1 == n)).map (·.2) := by
 induction ev with
 | nil => intro l n hn; simp [bE]
 | cons m r ih =>
  intro l n hn
  show (bE (l.set m.1 _) r).getD n [] = _
  rw [ih _ n (by simpa using hn)]
  by_cases e : m.1 = n
  ·subst e
   rw [b5 hn, if_pos rfl]
   simp
  ·by_cases hm : m.1 < l.length
   ·rw [b5 hm, if_neg e]; simp [e]
   ·rw [List.set_eq_of_length_le (by omega)]; simp [e]
theorem wX (ev : List Nat) : ∀ (l : List Int) (n : Nat), n < l.length → (da l ev).getD n 0 = if n ∈ ev then 1 else l.getD n 0 := by
 induction ev with
 | nil => intro l n hn; simp [da]
 | cons m r ih =>
  intro l n hn
  show (da (l.set m _) r).getD n 0 = _
  rw [ih _ n (by simpa using hn)]
  by_cases hr : n ∈ r
  ·rw [if_pos hr, if_pos (by simp [hr])]
  ·rw [if_neg hr]
   by_cases e : m = n
   ·subst e
    rw [b5 hn, if_pos rfl, if_pos (by simp)]
   ·rw [if_neg (by simp [hr]; omega)]
    by_cases hm : m < l.length
    ·rw [b5 hm, if_neg e]
    ·rw [List.set_eq_of_length_le (by omega)]
section
variable {c : Ci} {s : Ns} {w : Nat → Bool}
theorem z7 (hc : bM c) {p n : Nat} (hp : p < c.procs.length) {f : Fi} {k : Nat} (hk : k ≤ (bC c p).takes.length) (h : n ∈ kB (bC c p) f k) : n < c.chans.length ∧ (f6 c n).dst = p := by
 obtain ⟨j, h1, h2, rfl⟩ := oU h
 obtain ⟨k1, k2, k3, k4⟩ := hc.tk p hp j (by omega)
 exact ⟨by show (kt (bC c p) j).chan.toNat < _; omega, k4⟩
theorem z8 (hc : bM c) {p : Nat} {e : Nat × Int} (hp : p < c.procs.length) {f : Fi} {k : Nat} (hk : k ≤ (bC c p).puts.length) (h : e ∈ kE (bC c p) f k) : e.1 < c.chans.length ∧ (f6 c e.1).frm = p := by
 obtain ⟨j, h1, h2, h3, h4⟩ := oV h
 obtain ⟨k1, k2, k3, k4⟩ := hc.pt p hp j (by omega)
 rw [← h3]
 exact ⟨by show (qE (bC c p) j).chan.toNat < _; omega, k4⟩
theorem qb (hc : bM c) {p : Nat} (n : Nat) (hp : p < c.procs.length) {f : Fi} : ∀ {k : Nat}, k ≤ (bC c p).takes.length → (kB (bC c p) f k).count n = if n ∈ kB (bC c p) f k then 1 else 0
 | 0, _ => by simp [kB]
 | k + 1, hk => by
  have ih := qb hc n hp (f := f) (k := k) (by omega)
  rw [kB, List.count_append, ih]
  by_cases h1 : f.pops.getD k false = true
  ·rw [if_pos h1]
   by_cases e : tb (bC c p) k = n
   ·have : n ∉ kB (bC c p) f k := by
     intro hm
     obtain ⟨j, g1, g2, g3⟩ := oU hm
     have := hc.td p hp j k (by omega) (by omega) (by rw [g3, e])
     omega
    rw [if_neg this, e, List.count_singleton_self, if_pos (List.mem_append_right _ (List.mem_singleton.2 rfl))]
   ·have e3 : ([tb (bC c p) k]).count n = 0 := List.count_eq_zero.2 (by rw [List.mem_singleton]; exact fun h => e h.symm)
    rw [e3, Nat.add_zero]
    by_cases hm : n ∈ kB (bC c p) f k
    ·rw [if_pos hm, if_pos (List.mem_append_left _ hm)]
    ·rw [if_neg hm, if_neg]
     intro h
     rcases List.mem_append.1 h with h | h
     ·exact hm h
     ·exact e (List.mem_singleton.1 h).symm
  ·rw [if_neg h1, List.append_nil]; rfl
theorem wY {n : Nat} : ∀ {P : Nat}, n ∈ eI c s w P → ∃ p, p < P ∧ aq c s w p = true ∧ n ∈ kB (bC c p) (aa c s p) (bC c p).takes.length
 | 0, h => by cases h
 | P + 1, h => by
  rw [eI, List.mem_append] at h
  rcases h with h | h
  ·obtain ⟨j, h1, h2⟩ := wY h; exact ⟨j, by omega, h2⟩
  ·split at h
   ·rename_i hh; exact ⟨P, by omega, hh, h⟩
   ·cases h
theorem nn (hc : bM c) (n : Nat) : ∀ {P : Nat}, P ≤ c.procs.length → (eI c s w P).count n = if iA c n < P then df c s w n else 0
 | 0, _ => by simp [eI]
 | P + 1, hP => by
  have ih := nn hc n (P := P) (by omega)
  rw [eI, List.count_append, ih]
  by_cases hd : iA c n = P
  ·rw [if_neg (show ¬iA c n < P by omega), if_pos (show iA c n < P + 1 by omega), df, hd, Nat.zero_add]
   by_cases hf : aq c s w P = true
   ·rw [if_pos hf, qb hc n (by omega) (Nat.le_refl _)]
    simp [eJ, hf]
   ·rw [if_neg hf]; simp [hf]
  ·have h0 : (if aq c s w P = true then kB (bC c P) (aa c s P) (bC c P).takes.length else []).count n = 0 := by
    split
    ·rw [qb hc n (by omega) (Nat.le_refl _), if_neg]
     intro hm
     have := (z7 hc (by omega) (Nat.le_refl _) hm).2
     exact hd (by rw [iA, this]; rfl)
    ·rfl
   rw [h0]
   by_cases h1 : iA c n < P
   ·rw [if_pos h1, if_pos (show iA c n < P + 1 by omega)]; rfl
   ·rw [if_neg h1, if_neg (show ¬iA c n < P + 1 by omega)]
theorem Ds (hc : bM c) {p n : Nat} (h : eJ c s p n = true) : p < c.procs.length := by
 by_cases hp : p < c.procs.length
 ·exact hp
 ·unfold eJ at h
  have e : bC c p = ao := by rw [bC, List.getD, List.getElem?_eq_none (by omega)]; rfl
  rw [e] at h
  simp [kB] at h
theorem z9 (hc : bM c) (n : Nat) : (if iA c n < c.procs.length then df c s w n else 0) = df c s w n := by
 split
 ·rfl
 ·rename_i h
  rw [df, if_neg]
  rintro ⟨_, h2⟩
  exact h (Ds hc h2)
theorem EZ (hc : bM c) {p n : Nat} (hp : p < c.procs.length) (hd : ¬ff c n = p) (f : Fi) : (kE (bC c p) f (bC c p).puts.length).filter (fun e => e.1 == n) = [] := by
 rw [List.filter_eq_nil_iff]
 intro e he h
 have h1 : e.1 = n := by simpa using h
 have := (z8 hc hp (Nat.le_refl _) he).2
 rw [h1] at this
 exact hd (by rw [ff, this]; rfl)
theorem oY (hc : bM c) (n : Nat) : ∀ {P : Nat}, P ≤ c.procs.length → ((iz c s w P).filter (fun e => e.1 == n)).map (·.2) = if ff c n < P then cI c s w n else []
 | 0, _ => by simp [iz]
 | P + 1, hP => by
  have ih := oY hc n (P := P) (by omega)
  rw [iz, List.filter_append, List.map_append, ih]
  by_cases hd : ff c n = P
  ·rw [if_neg (show ¬ff c n < P by omega), if_pos (show ff c n < P + 1 by omega), cI, hd]
   by_cases hf : aq c s w P = true
   ·rw [if_pos hf, if_pos hf]; rfl
   ·rw [if_neg hf, if_neg hf]; rfl
  ·have h0 : (if aq c s w P = true then kE (bC c P) (aa c s P) (bC c P).puts.length else []).filter (fun e => e.1 == n) = [] := by
    split
    ·exact EZ hc (by omega) hd _
    ·rfl
   rw [h0]
   by_cases h1 : ff c n < P
   ·rw [if_pos h1, if_pos (show ff c n < P + 1 by omega)]; exact List.append_nil _
   ·rw [if_neg h1, if_neg (show ¬ff c n < P + 1 by omega)]; rfl
theorem lh {p n : Nat} (hp : ¬p < c.procs.length) : qQ c s p n = [] := by
 have e : bC c p = ao := by rw [bC, List.getD, List.getElem?_eq_none (by omega)]; rfl
 unfold qQ
 rw [e]; rfl
theorem vw (n : Nat) : (if ff c n < c.procs.length then cI c s w n else []) = cI c s w n := by
 split
 ·rfl
 ·rename_i h
  rw [cI]
  split
  ·rw [lh h]
  ·rfl
theorem t0 (hc : bM c) (hs : s.chans.length = c.chans.length) : bE (a8 s.chans (eI c s w c.procs.length)) (iz c s w c.procs.length) = (aA c s w).chans := by
 refine jf (d := []) ?_ (fun n hn => ?_)
 ·rw [eT, cC, aA, aR, hs]
 ·rw [eT, cC] at hn
  rw [qI _ _ _ (by rw [cC]; exact hn), lg _ _ _ hn, nn hc n (Nat.le_refl _), oY hc n (Nat.le_refl _), z9 hc, vw]
  show _ = (ap (cB c s w) c.chans.length).getD n []
  rw [bj (by omega)]
  rfl
end
end Go.Proofs.YtifoecfajmnjjaaGreat
