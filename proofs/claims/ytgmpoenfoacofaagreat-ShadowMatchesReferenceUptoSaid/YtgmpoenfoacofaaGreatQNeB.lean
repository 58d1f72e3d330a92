/-
  Circuits, plain data: what firing does, channel by channel.
-/
import Derived.Test.YtgmpoenfoacofaaGreatQNeA
namespace Go.Proofs.YtgmpoenfoacofaaGreat
open Go.RowKit
set_option linter.unusedVariables false
set_option linter.unusedSimpArgs false
structure Ch where
 name : ByteArray
 w : Int
 cap : Int
 frm : Int
 dst : Int
abbrev bi : Ch := ⟨e0, 0, 0, 0, 0⟩
structure Ci where
 procs : List Pr
 chans : List Ch
structure Ns where
 procs : List Ps
 chans : List (List Int)
def eB (c : Ch) : List V := [.str c.name, .int .i64 c.w, .int .i64 c.cap, .int .i64 c.frm, .int .i64 c.dst]
abbrev CQ : Ns := ⟨[], []⟩
abbrev bK (c : Ci) (i : Nat) : Pr := c.procs.getD i au
abbrev gG (c : Ci) (n : Nat) : Ch := c.chans.getD n bi
abbrev FZ (s : Ns) (i : Nat) : Ps := s.procs.getD i a7
abbrev kr (s : Ns) (n : Nat) : List Int := s.chans.getD n []
abbrev xd (p : Pr) (j : Nat) : Nat := (kO p j).chan.toNat
abbrev vQ (p : Pr) (j : Nat) : Nat := (rJ p j).chan.toNat
structure bC (c : Ci) : Prop where
 n1 : 1 ≤ c.procs.length
 nl : c.procs.length ≤ 100
 cl : c.chans.length ≤ 100
 pr : ∀ i, i < c.procs.length → gv (bK c i)
 tk : ∀ i, i < c.procs.length → ∀ j, j < (bK c i).takes.length → 0 ≤ (kO (bK c i) j).chan ∧ (kO (bK c i) j).chan < c.chans.length ∧ (gG c (xd (bK c i) j)).w = (kO (bK c i) j).w ∧ (gG c (xd (bK c i) j)).dst = i
 pt : ∀ i, i < c.procs.length → ∀ j, j < (bK c i).puts.length → 0 ≤ (rJ (bK c i) j).chan ∧ (rJ (bK c i) j).chan < c.chans.length ∧ (gG c (vQ (bK c i) j)).w = (rJ (bK c i) j).w ∧ (gG c (vQ (bK c i) j)).frm = i
 td : ∀ i, i < c.procs.length → ∀ j k, j < (bK c i).takes.length → k < (bK c i).takes.length → xd (bK c i) j = xd (bK c i) k → j = k
 pd : ∀ i, i < c.procs.length → ∀ j k, j < (bK c i).puts.length → k < (bK c i).puts.length → vQ (bK c i) j = vQ (bK c i) k → j = k
 cw : ∀ n, n < c.chans.length → an (gG c n).w = true
 cp : ∀ n, n < c.chans.length → 0 ≤ (gG c n).cap
def fN (l : List Int) (w : Int) : Bool := cJ (fun i => ga (l.getD i 0) w) l.length
structure b8 (c : Ci) (s : Ns) : Prop where
 pl : s.procs.length = c.procs.length
 cl : s.chans.length = c.chans.length
 pv : ∀ i, i < c.procs.length → oW (bK c i) (FZ s i)
 cv : ∀ n, n < c.chans.length → ∀ i, i < (kr s n).length → dR ((kr s n).getD i 0) (gG c n).w
 cc : ∀ n, n < c.chans.length → 0 ≤ (gG c n).frm → 0 ≤ (gG c n).dst → ((kr s n).length : Int) ≤ (gG c n).cap
def bR (c : Ci) (s : Ns) (p j : Nat) : Hd := if 0 < (kr s (xd (bK c p) j)).length then ⟨true, (kr s (xd (bK c p) j)).getD 0 0⟩ else aO
def cy (c : Ci) (s : Ns) (p : Nat) : List Hd := tab (bR c s p) (bK c p).takes.length
def bS (c : Ci) (s : Ns) (p j : Nat) : Bool := decide ((gG c (vQ (bK c p) j)).dst = -1) || decide (((kr s (vQ (bK c p) j)).length : Int) < (gG c (vQ (bK c p) j)).cap)
def cT (c : Ci) (s : Ns) (p : Nat) : List Bool := tab (bS c s p) (bK c p).puts.length
def ab (c : Ci) (s : Ns) (p : Nat) : Fi := aJ (bK c p) (FZ s p) (cy c s p) (cT c s p)
def nk (c : Ci) (s : Ns) (p : Nat) : Bool := (ab c s p).fires
def hJ (c : Ci) (s : Ns) (p : Int) : Bool := decide (0 ≤ p) && (decide (p < c.procs.length) && nk c s p.toNat)
theorem z6 (c : Ci) (s : Ns) (p : Nat) : nk c s p = f9 (bK c p) (FZ s p) (cy c s p) (cT c s p) := z5 _ _ _ _
theorem o7 {c : Ci} {s : Ns} (hc : bC c) (hs : b8 c s) {p : Nat} (hp : p < c.procs.length) : yC (bK c p) (cy c s p) where
 l := by rw [cy, aQ]
 v := fun i hi hh => by
  rw [cy, bp hi] at hh ⊢
  unfold bR at hh ⊢
  split
  ·rename_i h0
   obtain ⟨k1, k2, k3, k4⟩ := hc.tk p hp i hi
   have := hs.cv (xd (bK c p) i) (by show (kO (bK c p) i).chan.toNat < _; omega) 0 h0
   rw [k3] at this
   exact this
  ·rename_i h0; rw [if_neg h0] at hh; cases hh
def nn (p : Pr) (f : Fi) : Nat → List Nat
 | 0 => []
 | k + 1 => nn p f k ++ (if f.pops.getD k false = true then [xd p k] else [])
def np (p : Pr) (f : Fi) : Nat → List (Nat × Int)
 | 0 => []
 | k + 1 => np p f k ++ (if (f.puts.getD k aO).has = true then [(vQ p k, (f.puts.getD k aO).v)] else [])
def aM (c : Ci) (s : Ns) (w : Nat → Bool) (p : Nat) : Bool := w p && nk c s p
def fO (c : Ci) (s : Ns) (w : Nat → Bool) : Nat → List Nat
 | 0 => []
 | p + 1 => fO c s w p ++ (if aM c s w p = true then nn (bK c p) (ab c s p) (bK c p).takes.length else [])
def i2 (c : Ci) (s : Ns) (w : Nat → Bool) : Nat → List (Nat × Int)
 | 0 => []
 | p + 1 => i2 c s w p ++ (if aM c s w p = true then np (bK c p) (ab c s p) (bK c p).puts.length else [])
def bq (l : List (List Int)) (ev : List Nat) : List (List Int) := ev.foldl (fun l n => l.set n ((l.getD n []).drop 1)) l
def bV (l : List (List Int)) (ev : List (Nat × Int)) : List (List Int) := ev.foldl (fun l e => l.set e.1 (l.getD e.1 [] ++ [e.2])) l
def cM (l : List Int) (ev : List Nat) : List Int := ev.foldl (fun l n => l.set n 1) l
def cG (l : List (Option Int)) (ev : List (Nat × Int)) : List (Option Int) := ev.foldl (fun l e => l.set e.1 (some e.2)) l
def jX (c : Ci) (s : Ns) (p n : Nat) : Bool := decide (n ∈ nn (bK c p) (ab c s p) (bK c p).takes.length)
def xe (c : Ci) (s : Ns) (p n : Nat) : List Int := ((np (bK c p) (ab c s p) (bK c p).puts.length).filter (fun e => e.1 == n)).map (·.2)
def qA (c : Ci) (n : Nat) : Nat := (gG c n).dst.toNat
def kT (c : Ci) (n : Nat) : Nat := (gG c n).frm.toNat
def fe (c : Ci) (s : Ns) (w : Nat → Bool) (n : Nat) : Nat := if aM c s w (qA c n) = true ∧ jX c s (qA c n) n = true then 1 else 0
def eY (c : Ci) (s : Ns) (w : Nat → Bool) (n : Nat) : List Int := if aM c s w (kT c n) = true then xe c s (kT c n) n else []
def e7 (c : Ci) (s : Ns) (w : Nat → Bool) (n : Nat) : List Int := (kr s n).drop (fe c s w n) ++ eY c s w n
def ce (c : Ci) (s : Ns) (w : Nat → Bool) (p : Nat) : Ps := if aM c s w p = true then (ab c s p).s else FZ s p
def bj (c : Ci) (s : Ns) (w : Nat → Bool) : Ns := ⟨tab (ce c s w) c.procs.length, tab (e7 c s w) c.chans.length⟩
theorem o8 {p : Pr} {f : Fi} {n : Nat} : ∀ {k : Nat}, n ∈ nn p f k → ∃ j, j < k ∧ f.pops.getD j false = true ∧ xd p j = n
 | 0, h => by cases h
 | k + 1, h => by
  rw [nn, List.mem_append] at h
  rcases h with h | h
  ·obtain ⟨j, h1, h2⟩ := o8 h; exact ⟨j, by omega, h2⟩
  ·split at h
   ·rename_i hh; simp only [List.mem_singleton] at h; exact ⟨k, by omega, hh, h.symm⟩
   ·cases h
theorem o9 {p : Pr} {f : Fi} {e : Nat × Int} : ∀ {k : Nat}, e ∈ np p f k → ∃ j, j < k ∧ (f.puts.getD j aO).has = true ∧ vQ p j = e.1 ∧ (f.puts.getD j aO).v = e.2
 | 0, h => by cases h
 | k + 1, h => by
  rw [np, List.mem_append] at h
  rcases h with h | h
  ·obtain ⟨j, h1, h2⟩ := o9 h; exact ⟨j, by omega, h2⟩
  ·split at h
   ·rename_i hh; simp only [List.mem_singleton] at h; subst h; exact ⟨k, by omega, hh, rfl, rfl⟩
   ·cases h
theorem dV (ev : List Nat) : ∀ (l : List (List Int)), (bq l ev).length = l.length := by
 induction ev with
 | nil => intro l; rfl
 | cons n r ih => intro l; show (bq _ r).length = _; rw [ih]; simp
theorem iI (ev : List (Nat × Int)) : ∀ (l : List (List Int)), (bV l ev).length = l.length := by
 induction ev with
 | nil => intro l; rfl
 | cons n r ih => intro l; show (bV _ r).length = _; rw [ih]; simp
theorem rh (ev : List Nat) : ∀ (l : List Int), (cM l ev).length = l.length := by
 induction ev with
 | nil => intro l; rfl
 | cons n r ih => intro l; show (cM _ r).length = _; rw [ih]; simp
theorem ri (ev : List (Nat × Int)) : ∀ (l : List (Option Int)), (cG l ev).length = l.length := by
 induction ev with
 | nil => intro l; rfl
 | cons n r ih => intro l; show (cG _ r).length = _; rw [ih]; simp
theorem xf (l : List (List Int)) (ev : List Nat) (n : Nat) : bq l (ev ++ [n]) = (bq l ev).set n (((bq l ev).getD n []).drop 1) := by simp [bq, List.foldl_append]
theorem xg (l : List (List Int)) (ev : List (Nat × Int)) (n : Nat) (v : Int) : bV l (ev ++ [(n, v)]) = (bV l ev).set n ((bV l ev).getD n [] ++ [v]) := by simp [bV, List.foldl_append]
theorem xh (l : List Int) (ev : List Nat) (n : Nat) : cM l (ev ++ [n]) = (cM l ev).set n 1 := by simp [cM, List.foldl_append]
theorem xi (l : List (Option Int)) (ev : List (Nat × Int)) (n : Nat) (v : Int) : cG l (ev ++ [(n, v)]) = (cG l ev).set n (some v) := by simp [cG, List.foldl_append]
theorem kU (ev : List Nat) : ∀ (l : List (List Int)) (n : Nat), n < l.length → (bq l ev).getD n [] = (l.getD n []).drop (ev.count n) := by
 induction ev with
 | nil => intro l n hn; simp [bq]
 | cons m r ih =>
  intro l n hn
  show (bq (l.set m _) r).getD n [] = _
  rw [ih _ n (by simpa using hn), List.count_cons]
  by_cases e : m = n
  ·subst e
   rw [cb hn, if_pos rfl, List.drop_drop]
   simp [Nat.add_comm]
  ·by_cases hm : m < l.length
   ·rw [cb hm, if_neg e]; simp [e]
   ·rw [List.set_eq_of_length_le (by omega)]; simp [e]
theorem rj (ev : List (Nat × Int)) : ∀ (l : List (List Int)) (n : Nat), n < l.length → (bV l ev).getD n [] = l.getD n [] ++ (ev.filter (fun e => e.1 == n)).map (·.2) := by
 induction ev with
 | nil => intro l n hn; simp [bV]
 | cons m r ih =>
  intro l n hn
  show (bV (l.set m.1 _) r).getD n [] = _
  rw [ih _ n (by simpa using hn)]
  by_cases e : m.1 = n
  ·subst e
   rw [cb hn, if_pos rfl]
   simp
  ·by_cases hm : m.1 < l.length
   ·rw [cb hm, if_neg e]; simp [e]
   ·rw [List.set_eq_of_length_le (by omega)]; simp [e]
theorem yF (ev : List Nat) : ∀ (l : List Int) (n : Nat), n < l.length → (cM l ev).getD n 0 = if n ∈ ev then 1 else l.getD n 0 := by
 induction ev with
 | nil => intro l n hn; simp [cM]
 | cons m r ih =>
  intro l n hn
  show (cM (l.set m _) r).getD n 0 = _
  rw [ih _ n (by simpa using hn)]
  by_cases hr : n ∈ r
  ·rw [if_pos hr, if_pos (by simp [hr])]
  ·rw [if_neg hr]
   by_cases e : m = n
   ·subst e
    rw [cb hn, if_pos rfl, if_pos (by simp)]
   ·rw [if_neg (by simp [hr]; omega)]
    by_cases hm : m < l.length
    ·rw [cb hm, if_neg e]
    ·rw [List.set_eq_of_length_le (by omega)]
section
variable {c : Ci} {s : Ns} {w : Nat → Bool}
theorem Bu (hc : bC c) {p n : Nat} (hp : p < c.procs.length) {f : Fi} {k : Nat} (hk : k ≤ (bK c p).takes.length) (h : n ∈ nn (bK c p) f k) : n < c.chans.length ∧ (gG c n).dst = p := by
 obtain ⟨j, h1, h2, rfl⟩ := o8 h
 obtain ⟨k1, k2, k3, k4⟩ := hc.tk p hp j (by omega)
 exact ⟨by show (kO (bK c p) j).chan.toNat < _; omega, k4⟩
theorem Bv (hc : bC c) {p : Nat} {e : Nat × Int} (hp : p < c.procs.length) {f : Fi} {k : Nat} (hk : k ≤ (bK c p).puts.length) (h : e ∈ np (bK c p) f k) : e.1 < c.chans.length ∧ (gG c e.1).frm = p := by
 obtain ⟨j, h1, h2, h3, h4⟩ := o9 h
 obtain ⟨k1, k2, k3, k4⟩ := hc.pt p hp j (by omega)
 rw [← h3]
 exact ⟨by show (rJ (bK c p) j).chan.toNat < _; omega, k4⟩
theorem qB (hc : bC c) {p : Nat} (n : Nat) (hp : p < c.procs.length) {f : Fi} : ∀ {k : Nat}, k ≤ (bK c p).takes.length → (nn (bK c p) f k).count n = if n ∈ nn (bK c p) f k then 1 else 0
 | 0, _ => by simp [nn]
 | k + 1, hk => by
  have ih := qB hc n hp (f := f) (k := k) (by omega)
  rw [nn, List.count_append, ih]
  by_cases h1 : f.pops.getD k false = true
  ·rw [if_pos h1]
   by_cases e : xd (bK c p) k = n
   ·have : n ∉ nn (bK c p) f k := by
     intro hm
     obtain ⟨j, g1, g2, g3⟩ := o8 hm
     have := hc.td p hp j k (by omega) (by omega) (by rw [g3, e])
     omega
    rw [if_neg this, e, List.count_singleton_self, if_pos (List.mem_append_right _ (List.mem_singleton.2 rfl))]
   ·have e3 : ([xd (bK c p) k]).count n = 0 := List.count_eq_zero.2 (by rw [List.mem_singleton]; exact fun h => e h.symm)
    rw [e3, Nat.add_zero]
    by_cases hm : n ∈ nn (bK c p) f k
    ·rw [if_pos hm, if_pos (List.mem_append_left _ hm)]
    ·rw [if_neg hm, if_neg]
     intro h
     rcases List.mem_append.1 h with h | h
     ·exact hm h
     ·exact e (List.mem_singleton.1 h).symm
  ·rw [if_neg h1, List.append_nil]; rfl
theorem yG {n : Nat} : ∀ {P : Nat}, n ∈ fO c s w P → ∃ p, p < P ∧ aM c s w p = true ∧ n ∈ nn (bK c p) (ab c s p) (bK c p).takes.length
 | 0, h => by cases h
 | P + 1, h => by
  rw [fO, List.mem_append] at h
  rcases h with h | h
  ·obtain ⟨j, h1, h2⟩ := yG h; exact ⟨j, by omega, h2⟩
  ·split at h
   ·rename_i hh; exact ⟨P, by omega, hh, h⟩
   ·cases h
theorem nq (hc : bC c) (n : Nat) : ∀ {P : Nat}, P ≤ c.procs.length → (fO c s w P).count n = if qA c n < P then fe c s w n else 0
 | 0, _ => by simp [fO]
 | P + 1, hP => by
  have ih := nq hc n (P := P) (by omega)
  rw [fO, List.count_append, ih]
  by_cases hd : qA c n = P
  ·rw [if_neg (show ¬qA c n < P by omega), if_pos (show qA c n < P + 1 by omega), fe, hd, Nat.zero_add]
   by_cases hf : aM c s w P = true
   ·rw [if_pos hf, qB hc n (by omega) (Nat.le_refl _)]
    simp [jX, hf]
   ·rw [if_neg hf]; simp [hf]
  ·have h0 : (if aM c s w P = true then nn (bK c P) (ab c s P) (bK c P).takes.length else []).count n = 0 := by
    split
    ·rw [qB hc n (by omega) (Nat.le_refl _), if_neg]
     intro hm
     have := (Bu hc (by omega) (Nat.le_refl _) hm).2
     exact hd (by rw [qA, this]; rfl)
    ·rfl
   rw [h0]
   by_cases h1 : qA c n < P
   ·rw [if_pos h1, if_pos (show qA c n < P + 1 by omega)]; rfl
   ·rw [if_neg h1, if_neg (show ¬qA c n < P + 1 by omega)]
theorem EL (hc : bC c) {p n : Nat} (h : jX c s p n = true) : p < c.procs.length := by
 by_cases hp : p < c.procs.length
 ·exact hp
 ·unfold jX at h
  have e : bK c p = au := by rw [bK, List.getD, List.getElem?_eq_none (by omega)]; rfl
  rw [e] at h
  simp [nn] at h
theorem Bw (hc : bC c) (n : Nat) : (if qA c n < c.procs.length then fe c s w n else 0) = fe c s w n := by
 split
 ·rfl
 ·rename_i h
  rw [fe, if_neg]
  rintro ⟨_, h2⟩
  exact h (EL hc h2)
theorem Gz (hc : bC c) {p n : Nat} (hp : p < c.procs.length) (hd : ¬kT c n = p) (f : Fi) : (np (bK c p) f (bK c p).puts.length).filter (fun e => e.1 == n) = [] := by
 rw [List.filter_eq_nil_iff]
 intro e he h
 have h1 : e.1 = n := by simpa using h
 have := (Bv hc hp (Nat.le_refl _) he).2
 rw [h1] at this
 exact hd (by rw [kT, this]; rfl)
theorem pb (hc : bC c) (n : Nat) : ∀ {P : Nat}, P ≤ c.procs.length → ((i2 c s w P).filter (fun e => e.1 == n)).map (·.2) = if kT c n < P then eY c s w n else []
 | 0, _ => by simp [i2]
 | P + 1, hP => by
  have ih := pb hc n (P := P) (by omega)
  rw [i2, List.filter_append, List.map_append, ih]
  by_cases hd : kT c n = P
  ·rw [if_neg (show ¬kT c n < P by omega), if_pos (show kT c n < P + 1 by omega), eY, hd]
   by_cases hf : aM c s w P = true
   ·rw [if_pos hf, if_pos hf]; rfl
   ·rw [if_neg hf, if_neg hf]; rfl
  ·have h0 : (if aM c s w P = true then np (bK c P) (ab c s P) (bK c P).puts.length else []).filter (fun e => e.1 == n) = [] := by
    split
    ·exact Gz hc (by omega) hd _
    ·rfl
   rw [h0]
   by_cases h1 : kT c n < P
   ·rw [if_pos h1, if_pos (show kT c n < P + 1 by omega)]; exact List.append_nil _
   ·rw [if_neg h1, if_neg (show ¬kT c n < P + 1 by omega)]; rfl
theorem kV {p n : Nat} (hp : ¬p < c.procs.length) : xe c s p n = [] := by
 have e : bK c p = au := by rw [bK, List.getD, List.getElem?_eq_none (by omega)]; rfl
 unfold xe
 rw [e]; rfl
theorem xj (n : Nat) : (if kT c n < c.procs.length then eY c s w n else []) = eY c s w n := by
 split
 ·rfl
 ·rename_i h
  rw [eY]
  split
  ·rw [kV h]
  ·rfl
theorem CR (hc : bC c) (hs : s.chans.length = c.chans.length) : bV (bq s.chans (fO c s w c.procs.length)) (i2 c s w c.procs.length) = (bj c s w).chans := by
 refine jj (d := []) ?_ (fun n hn => ?_)
 ·rw [iI, dV, bj, aQ, hs]
 ·rw [iI, dV] at hn
  rw [rj _ _ _ (by rw [dV]; exact hn), kU _ _ _ hn, nq hc n (Nat.le_refl _), pb hc n (Nat.le_refl _), Bw hc, xj]
  show _ = (tab (e7 c s w) c.chans.length).getD n []
  rw [bp (by omega)]
  rfl
end
end Go.Proofs.YtgmpoenfoacofaaGreat
