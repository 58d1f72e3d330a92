/-
  Circuits, plain data: what firing does, channel by channel.
-/
import Derived.Test.YtckgpflobhpnpaaQNeA
namespace Go.Proofs.Ytckgpflobhpnpaa
open Go.RowKit
set_option linter.unusedVariables false
set_option linter.unusedSimpArgs false
structure Ch where
 name : ByteArray
 w : Int
 cap : Int
 frm : Int
 dst : Int
abbrev ge : Ch := ⟨e0, 0, 0, 0, 0⟩
structure Ci where
 procs : List Pr
 chans : List Ch
structure Ns where
 procs : List Ps
 chans : List (List Int)
def tu (c : Ch) : List V := [.str c.name, .int .i64 c.w, .int .i64 c.cap, .int .i64 c.frm, .int .i64 c.dst]
abbrev a6 (c : Ci) (i : Nat) : Pr := c.procs.getD i ab
abbrev gF (c : Ci) (n : Nat) : Ch := c.chans.getD n ge
abbrev yH (s : Ns) (i : Nat) : Ps := s.procs.getD i bK
abbrev vY (s : Ns) (n : Nat) : List Int := s.chans.getD n []
abbrev nq (p : Pr) (j : Nat) : Nat := (oB p j).chan.toNat
abbrev wB (p : Pr) (j : Nat) : Nat := (vV p j).chan.toNat
structure a8 (c : Ci) : Prop where
 n1 : 1 ≤ c.procs.length
 nl : c.procs.length ≤ 100
 cl : c.chans.length ≤ 100
 pr : ∀ i, i < c.procs.length → gE (a6 c i)
 tk : ∀ i, i < c.procs.length → ∀ j, j < (a6 c i).takes.length → 0 ≤ (oB (a6 c i) j).chan ∧ (oB (a6 c i) j).chan < c.chans.length ∧ (gF c (nq (a6 c i) j)).w = (oB (a6 c i) j).w ∧ (gF c (nq (a6 c i) j)).dst = i
 pt : ∀ i, i < c.procs.length → ∀ j, j < (a6 c i).puts.length → 0 ≤ (vV (a6 c i) j).chan ∧ (vV (a6 c i) j).chan < c.chans.length ∧ (gF c (wB (a6 c i) j)).w = (vV (a6 c i) j).w ∧ (gF c (wB (a6 c i) j)).frm = i
 td : ∀ i, i < c.procs.length → ∀ j k, j < (a6 c i).takes.length → k < (a6 c i).takes.length → nq (a6 c i) j = nq (a6 c i) k → j = k
 pd : ∀ i, i < c.procs.length → ∀ j k, j < (a6 c i).puts.length → k < (a6 c i).puts.length → wB (a6 c i) j = wB (a6 c i) k → j = k
 cw : ∀ n, n < c.chans.length → aw (gF c n).w = true
 cp : ∀ n, n < c.chans.length → 0 ≤ (gF c n).cap
def xq (l : List Int) (w : Int) : Bool := dP (fun i => j9 (l.getD i 0) w) l.length
structure jt (c : Ci) (s : Ns) : Prop where
 pl : s.procs.length = c.procs.length
 cl : s.chans.length = c.chans.length
 pv : ∀ i, i < c.procs.length → pm (a6 c i) (yH s i)
 cv : ∀ n, n < c.chans.length → ∀ i, i < (vY s n).length → dM ((vY s n).getD i 0) (gF c n).w
 cc : ∀ n, n < c.chans.length → 0 ≤ (gF c n).frm → 0 ≤ (gF c n).dst → ((vY s n).length : Int) ≤ (gF c n).cap
theorem Db {l : List Int} {w : Int} : xq l w = true ↔ ∀ i, i < l.length → dM (l.getD i 0) w := by
 unfold xq
 simp only [c9, C8]
def cx (c : Ci) (s : Ns) (p j : Nat) : Hd := if 0 < (vY s (nq (a6 c p) j)).length then ⟨true, (vY s (nq (a6 c p) j)).getD 0 0⟩ else aK
def fB (c : Ci) (s : Ns) (p : Nat) : List Hd := tab (cx c s p) (a6 c p).takes.length
def cD (c : Ci) (s : Ns) (p j : Nat) : Bool := decide ((gF c (wB (a6 c p) j)).dst = -1) || decide (((vY s (wB (a6 c p) j)).length : Int) < (gF c (wB (a6 c p) j)).cap)
def s5 (c : Ci) (s : Ns) (p : Nat) : List Bool := tab (cD c s p) (a6 c p).puts.length
def ac (c : Ci) (s : Ns) (p : Nat) : Fi := aG (a6 c p) (yH s p) (fB c s p) (s5 c s p)
def fC (c : Ci) (s : Ns) (p : Nat) : Bool := (ac c s p).fires
theorem qs (c : Ci) (s : Ns) (p : Nat) : fC c s p = eN (a6 c p) (yH s p) (fB c s p) (s5 c s p) := oh _ _ _ _
theorem pB {c : Ci} {s : Ns} (hc : a8 c) (hs : jt c s) {p : Nat} (hp : p < c.procs.length) : yC (a6 c p) (fB c s p) where
 l := by rw [fB, au]
 v := fun i hi hh => by
  rw [fB, aH hi] at hh ⊢
  unfold cx at hh ⊢
  split
  ·rename_i h0
   obtain ⟨k1, k2, k3, k4⟩ := hc.tk p hp i hi
   have := hs.cv (nq (a6 c p) i) (by show (oB (a6 c p) i).chan.toNat < _; omega) 0 h0
   rw [k3] at this
   exact this
  ·rename_i h0; rw [if_neg h0] at hh; cases hh
def kK (p : Pr) (f : Fi) : Nat → List Nat
 | 0 => []
 | k + 1 => kK p f k ++ (if f.pops.getD k false = true then [nq p k] else [])
def mm (p : Pr) (f : Fi) : Nat → List (Nat × Int)
 | 0 => []
 | k + 1 => mm p f k ++ (if (f.puts.getD k aK).has = true then [(wB p k, (f.puts.getD k aK).v)] else [])
def aq (c : Ci) (s : Ns) (w : Nat → Bool) (p : Nat) : Bool := w p && fC c s p
def hU (c : Ci) (s : Ns) (w : Nat → Bool) : Nat → List Nat
 | 0 => []
 | p + 1 => hU c s w p ++ (if aq c s w p = true then kK (a6 c p) (ac c s p) (a6 c p).takes.length else [])
def mY (c : Ci) (s : Ns) (w : Nat → Bool) : Nat → List (Nat × Int)
 | 0 => []
 | p + 1 => mY c s w p ++ (if aq c s w p = true then mm (a6 c p) (ac c s p) (a6 c p).puts.length else [])
def bg (l : List (List Int)) (ev : List Nat) : List (List Int) := ev.foldl (fun l n => l.set n ((l.getD n []).drop 1)) l
def bv (l : List (List Int)) (ev : List (Nat × Int)) : List (List Int) := ev.foldl (fun l e => l.set e.1 (l.getD e.1 [] ++ [e.2])) l
def dV (c : Ci) (s : Ns) (p n : Nat) : Bool := decide (n ∈ kK (a6 c p) (ac c s p) (a6 c p).takes.length)
def rk (c : Ci) (s : Ns) (p n : Nat) : List Int := ((mm (a6 c p) (ac c s p) (a6 c p).puts.length).filter (fun e => e.1 == n)).map (·.2)
def gi (c : Ci) (n : Nat) : Nat := (gF c n).dst.toNat
def ee (c : Ci) (n : Nat) : Nat := (gF c n).frm.toNat
def dt (c : Ci) (s : Ns) (w : Nat → Bool) (n : Nat) : Nat := if aq c s w (gi c n) = true ∧ dV c s (gi c n) n = true then 1 else 0
def cy (c : Ci) (s : Ns) (w : Nat → Bool) (n : Nat) : List Int := if aq c s w (ee c n) = true then rk c s (ee c n) n else []
def du (c : Ci) (s : Ns) (w : Nat → Bool) (n : Nat) : List Int := (vY s n).drop (dt c s w n) ++ cy c s w n
def cz (c : Ci) (s : Ns) (w : Nat → Bool) (p : Nat) : Ps := if aq c s w p = true then (ac c s p).s else yH s p
def bp (c : Ci) (s : Ns) (w : Nat → Bool) : Ns := ⟨tab (cz c s w) c.procs.length, tab (du c s w) c.chans.length⟩
theorem mr {p : Pr} {f : Fi} {n : Nat} : ∀ {k : Nat}, n ∈ kK p f k → ∃ j, j < k ∧ f.pops.getD j false = true ∧ nq p j = n
 | 0, h => by cases h
 | k + 1, h => by
  rw [kK, List.mem_append] at h
  rcases h with h | h
  ·obtain ⟨j, h1, h2⟩ := mr h; exact ⟨j, by omega, h2⟩
  ·split at h
   ·rename_i hh; simp only [List.mem_singleton] at h; exact ⟨k, by omega, hh, h.symm⟩
   ·cases h
theorem pC {p : Pr} {f : Fi} {e : Nat × Int} : ∀ {k : Nat}, e ∈ mm p f k → ∃ j, j < k ∧ (f.puts.getD j aK).has = true ∧ wB p j = e.1 ∧ (f.puts.getD j aK).v = e.2
 | 0, h => by cases h
 | k + 1, h => by
  rw [mm, List.mem_append] at h
  rcases h with h | h
  ·obtain ⟨j, h1, h2⟩ := pC h; exact ⟨j, by omega, h2⟩
  ·split at h
   ·rename_i hh; simp only [List.mem_singleton] at h; subst h; exact ⟨k, by omega, hh, rfl, rfl⟩
   ·cases h
theorem dy (ev : List Nat) : ∀ (l : List (List Int)), (bg l ev).length = l.length := by
 induction ev with
 | nil => intro l; rfl
 | cons n r ih => intro l; show (bg _ r).length = _; rw [ih]; simp
theorem cR (ev : List (Nat × Int)) : ∀ (l : List (List Int)), (bv l ev).length = l.length := by
 induction ev with
 | nil => intro l; rfl
 | cons n r ih => intro l; show (bv _ r).length = _; rw [ih]; simp
theorem vZ (l : List (List Int)) (ev : List Nat) (n : Nat) : bg l (ev ++ [n]) = (bg l ev).set n (((bg l ev).getD n []).drop 1) := by simp [bg, List.foldl_append]
theorem kd (l : List (List Int)) (ev : List (Nat × Int)) (n : Nat) (v : Int) : bv l (ev ++ [(n, v)]) = (bv l ev).set n ((bv l ev).getD n [] ++ [v]) := by simp [bv, List.foldl_append]
theorem lr (ev : List Nat) : ∀ (l : List (List Int)) (n : Nat), n < l.length → (bg l ev).getD n [] = (l.getD n []).drop (ev.count n) := by
 induction ev with
 | nil => intro l n hn; simp [bg]
 | cons m r ih =>
  intro l n hn
  show (bg (l.set m _) r).getD n [] = _
  rw [ih _ n (by simpa using hn), List.count_cons]
  by_cases e : m = n
  ·subst e
   rw [cI hn, if_pos rfl, List.drop_drop]
   simp [Nat.add_comm]
  ·by_cases hm : m < l.length
   ·rw [cI hm, if_neg e]; simp [e]
   ·rw [List.set_eq_of_length_le (by omega)]; simp [e]
theorem lu (ev : List (Nat × Int)) : ∀ (l : List (List Int)) (n : Nat), n < l.length → (bv l ev).getD n [] = l.getD n [] ++ (ev.filter (fun e => e.1 == n)).map (·.2) := by
 induction ev with
 | nil => intro l n hn; simp [bv]
 | cons m r ih =>
  intro l n hn
  show (bv (l.set m.1 _) r).getD n [] = _
  rw [ih _ n (by simpa using hn)]
  by_cases e : m.1 = n
  ·subst e
   rw [cI hn, if_pos rfl]
   simp
  ·by_cases hm : m.1 < l.length
   ·rw [cI hm, if_neg e]; simp [e]
   ·rw [List.set_eq_of_length_le (by omega)]; simp [e]
section
variable {c : Ci} {s : Ns} {w : Nat → Bool}
theorem rL (hc : a8 c) {p n : Nat} (hp : p < c.procs.length) {f : Fi} {k : Nat} (hk : k ≤ (a6 c p).takes.length) (h : n ∈ kK (a6 c p) f k) : n < c.chans.length ∧ (gF c n).dst = p := by
 obtain ⟨j, h1, h2, rfl⟩ := mr h
 obtain ⟨k1, k2, k3, k4⟩ := hc.tk p hp j (by omega)
 exact ⟨by show (oB (a6 c p) j).chan.toNat < _; omega, k4⟩
theorem Ai (hc : a8 c) {p : Nat} {e : Nat × Int} (hp : p < c.procs.length) {f : Fi} {k : Nat} (hk : k ≤ (a6 c p).puts.length) (h : e ∈ mm (a6 c p) f k) : e.1 < c.chans.length ∧ (gF c e.1).frm = p := by
 obtain ⟨j, h1, h2, h3, h4⟩ := pC h
 obtain ⟨k1, k2, k3, k4⟩ := hc.pt p hp j (by omega)
 rw [← h3]
 exact ⟨by show (vV (a6 c p) j).chan.toNat < _; omega, k4⟩
theorem ju (hc : a8 c) {p : Nat} (n : Nat) (hp : p < c.procs.length) {f : Fi} : ∀ {k : Nat}, k ≤ (a6 c p).takes.length → (kK (a6 c p) f k).count n = if n ∈ kK (a6 c p) f k then 1 else 0
 | 0, _ => by simp [kK]
 | k + 1, hk => by
  have ih := ju hc n hp (f := f) (k := k) (by omega)
  rw [kK, List.count_append, ih]
  by_cases h1 : f.pops.getD k false = true
  ·rw [if_pos h1]
   by_cases e : nq (a6 c p) k = n
   ·have : n ∉ kK (a6 c p) f k := by
     intro hm
     obtain ⟨j, g1, g2, g3⟩ := mr hm
     have := hc.td p hp j k (by omega) (by omega) (by rw [g3, e])
     omega
    rw [if_neg this, e, List.count_singleton_self, if_pos (List.mem_append_right _ (List.mem_singleton.2 rfl))]
   ·have e3 : ([nq (a6 c p) k]).count n = 0 := List.count_eq_zero.2 (by rw [List.mem_singleton]; exact fun h => e h.symm)
    rw [e3, Nat.add_zero]
    by_cases hm : n ∈ kK (a6 c p) f k
    ·rw [if_pos hm, if_pos (List.mem_append_left _ hm)]
    ·rw [if_neg hm, if_neg]
     intro h
     rcases List.mem_append.1 h with h | h
     ·exact hm h
     ·exact e (List.mem_singleton.1 h).symm
  ·rw [if_neg h1, List.append_nil]; rfl
theorem xr {n : Nat} : ∀ {P : Nat}, n ∈ hU c s w P → ∃ p, p < P ∧ aq c s w p = true ∧ n ∈ kK (a6 c p) (ac c s p) (a6 c p).takes.length
 | 0, h => by cases h
 | P + 1, h => by
  rw [hU, List.mem_append] at h
  rcases h with h | h
  ·obtain ⟨j, h1, h2⟩ := xr h; exact ⟨j, by omega, h2⟩
  ·split at h
   ·rename_i hh; exact ⟨P, by omega, hh, h⟩
   ·cases h
theorem s6 (hc : a8 c) (n : Nat) : ∀ {P : Nat}, P ≤ c.procs.length → (hU c s w P).count n = if gi c n < P then dt c s w n else 0
 | 0, _ => by simp [hU]
 | P + 1, hP => by
  have ih := s6 hc n (P := P) (by omega)
  rw [hU, List.count_append, ih]
  by_cases hd : gi c n = P
  ·rw [if_neg (show ¬gi c n < P by omega), if_pos (show gi c n < P + 1 by omega), dt, hd, Nat.zero_add]
   by_cases hf : aq c s w P = true
   ·rw [if_pos hf, ju hc n (by omega) (Nat.le_refl _)]
    simp [dV, hf]
   ·rw [if_neg hf]; simp [hf]
  ·have h0 : (if aq c s w P = true then kK (a6 c P) (ac c s P) (a6 c P).takes.length else []).count n = 0 := by
    split
    ·rw [ju hc n (by omega) (Nat.le_refl _), if_neg]
     intro hm
     have := (rL hc (by omega) (Nat.le_refl _) hm).2
     exact hd (by rw [gi, this]; rfl)
    ·rfl
   rw [h0]
   by_cases h1 : gi c n < P
   ·rw [if_pos h1, if_pos (show gi c n < P + 1 by omega)]; rfl
   ·rw [if_neg h1, if_neg (show ¬gi c n < P + 1 by omega)]
theorem Dc (hc : a8 c) {p n : Nat} (h : dV c s p n = true) : p < c.procs.length := by
 by_cases hp : p < c.procs.length
 ·exact hp
 ·unfold dV at h
  have e : a6 c p = ab := by rw [a6, List.getD, List.getElem?_eq_none (by omega)]; rfl
  rw [e] at h
  simp [kK] at h
theorem Fl (hc : a8 c) (n : Nat) : (if gi c n < c.procs.length then dt c s w n else 0) = dt c s w n := by
 split
 ·rfl
 ·rename_i h
  rw [dt, if_neg]
  rintro ⟨_, h2⟩
  exact h (Dc hc h2)
theorem Fm (hc : a8 c) {p n : Nat} (hp : p < c.procs.length) (hd : ¬ee c n = p) (f : Fi) : (mm (a6 c p) f (a6 c p).puts.length).filter (fun e => e.1 == n) = [] := by
 rw [List.filter_eq_nil_iff]
 intro e he h
 have h1 : e.1 = n := by simpa using h
 have := (Ai hc hp (Nat.le_refl _) he).2
 rw [h1] at this
 exact hd (by rw [ee, this]; rfl)
theorem xt (hc : a8 c) (n : Nat) : ∀ {P : Nat}, P ≤ c.procs.length → ((mY c s w P).filter (fun e => e.1 == n)).map (·.2) = if ee c n < P then cy c s w n else []
 | 0, _ => by simp [mY]
 | P + 1, hP => by
  have ih := xt hc n (P := P) (by omega)
  rw [mY, List.filter_append, List.map_append, ih]
  by_cases hd : ee c n = P
  ·rw [if_neg (show ¬ee c n < P by omega), if_pos (show ee c n < P + 1 by omega), cy, hd]
   by_cases hf : aq c s w P = true
   ·rw [if_pos hf, if_pos hf]; rfl
   ·rw [if_neg hf, if_neg hf]; rfl
  ·have h0 : (if aq c s w P = true then mm (a6 c P) (ac c s P) (a6 c P).puts.length else []).filter (fun e => e.1 == n) = [] := by
    split
    ·exact Fm hc (by omega) hd _
    ·rfl
   rw [h0]
   by_cases h1 : ee c n < P
   ·rw [if_pos h1, if_pos (show ee c n < P + 1 by omega)]; exact List.append_nil _
   ·rw [if_neg h1, if_neg (show ¬ee c n < P + 1 by omega)]; rfl
theorem lx {p n : Nat} (hp : ¬p < c.procs.length) : rk c s p n = [] := by
 have e : a6 c p = ab := by rw [a6, List.getD, List.getElem?_eq_none (by omega)]; rfl
 unfold rk
 rw [e]; rfl
theorem Fo (n : Nat) : (if ee c n < c.procs.length then cy c s w n else []) = cy c s w n := by
 split
 ·rfl
 ·rename_i h
  rw [cy]
  split
  ·rw [lx h]
  ·rfl
theorem Bq (hc : a8 c) (hs : s.chans.length = c.chans.length) : bv (bg s.chans (hU c s w c.procs.length)) (mY c s w c.procs.length) = (bp c s w).chans := by
 refine dq (d := []) ?_ (fun n hn => ?_)
 ·rw [cR, dy, bp, au, hs]
 ·rw [cR, dy] at hn
  rw [lu _ _ _ (by rw [dy]; exact hn), lr _ _ _ hn, s6 hc n (Nat.le_refl _), xt hc n (Nat.le_refl _), Fl hc, Fo]
  show _ = (tab (du c s w) c.chans.length).getD n []
  rw [aH (by omega)]
  rfl
end
end Go.Proofs.Ytckgpflobhpnpaa
