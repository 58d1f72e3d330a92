/-
  Circuits, plain data: what firing does, channel by channel.
-/
import Derived.Test.YtgmpoenfoacofaaGreatQNeA
namespace Go.Proofs.YtgmpoenfoacofaaGreat
open Go.RowKit
set_option linter.unusedVariables false
set_option linter.unusedSimpArgs false
structure Ch where
 name : ByteArray
 w : Int
 cap : Int
 frm : Int
 dst : Int
abbrev be : Ch := ⟨e0, 0, 0, 0, 0⟩
structure Ci where
 procs : List Pr
 chans : List Ch
structure Ns where
 procs : List Ps
 chans : List (List Int)
def d7 (c : Ch) : List V := [.str c.name, .int .i64 c.w, .int .i64 c.cap, .int .i64 c.frm, .int .i64 c.dst]
abbrev BW : Ns := ⟨[], []⟩
abbrev ba (c : Ci) (i : Nat) : Pr := c.procs.getD i aB
abbrev dg (c : Ci) (n : Nat) : Ch := c.chans.getD n be
abbrev BX (s : Ns) (i : Nat) : Ps := s.procs.getD i b4
abbrev fk (s : Ns) (n : Nat) : List Int := s.chans.getD n []
abbrev oG (p : Pr) (j : Nat) : Nat := (jE p j).chan.toNat
abbrev oH (p : Pr) (j : Nat) : Nat := (fa p j).chan.toNat
structure b5 (c : Ci) : Prop where
 n1 : 1 ≤ c.procs.length
 nl : c.procs.length ≤ 100
 cl : c.chans.length ≤ 100
 pr : ∀ i, i < c.procs.length → gi (ba c i)
 tk : ∀ i, i < c.procs.length → ∀ j, j < (ba c i).takes.length → 0 ≤ (jE (ba c i) j).chan ∧ (jE (ba c i) j).chan < c.chans.length ∧ (dg c (oG (ba c i) j)).w = (jE (ba c i) j).w ∧ (dg c (oG (ba c i) j)).dst = i
 pt : ∀ i, i < c.procs.length → ∀ j, j < (ba c i).puts.length → 0 ≤ (fa (ba c i) j).chan ∧ (fa (ba c i) j).chan < c.chans.length ∧ (dg c (oH (ba c i) j)).w = (fa (ba c i) j).w ∧ (dg c (oH (ba c i) j)).frm = i
 td : ∀ i, i < c.procs.length → ∀ j k, j < (ba c i).takes.length → k < (ba c i).takes.length → oG (ba c i) j = oG (ba c i) k → j = k
 pd : ∀ i, i < c.procs.length → ∀ j k, j < (ba c i).puts.length → k < (ba c i).puts.length → oH (ba c i) j = oH (ba c i) k → j = k
 cw : ∀ n, n < c.chans.length → av (dg c n).w = true
 cp : ∀ n, n < c.chans.length → 0 ≤ (dg c n).cap
def cy (l : List Int) (w : Int) : Bool := bW (fun i => cj (l.getD i 0) w) l.length
def gk (c : Ci) (s : Ns) (n : Nat) : Bool := cy (fk s n) (dg c n).w && (!(decide (0 ≤ (dg c n).frm) && decide (0 ≤ (dg c n).dst)) || decide (((fk s n).length : Int) ≤ (dg c n).cap))
def bO (c : Ci) (s : Ns) : Bool := decide (s.procs.length = c.procs.length) && decide (s.chans.length = c.chans.length) && bW (fun i => bC (ba c i) (BX s i)) c.procs.length && bW (gk c s) c.chans.length
structure cT (c : Ci) (s : Ns) : Prop where
 pl : s.procs.length = c.procs.length
 cl : s.chans.length = c.chans.length
 pv : ∀ i, i < c.procs.length → oE (ba c i) (BX s i)
 cv : ∀ n, n < c.chans.length → ∀ i, i < (fk s n).length → cJ ((fk s n).getD i 0) (dg c n).w
 cc : ∀ n, n < c.chans.length → 0 ≤ (dg c n).frm → 0 ≤ (dg c n).dst → ((fk s n).length : Int) ≤ (dg c n).cap
theorem BZ {l : List Int} {w : Int} : cy l w = true ↔ ∀ i, i < l.length → cJ (l.getD i 0) w := by
 unfold cy
 simp only [bE, v8]
theorem rt {c : Ci} {s : Ns} : bO c s = true ↔ cT c s := by
 unfold bO gk
 simp only [Bool.and_eq_true, decide_eq_true_eq, bE, z6, BZ, Bool.or_eq_true, Bool.not_eq_true', Bool.and_eq_false_iff, decide_eq_false_iff_not]
 constructor
 ·rintro ⟨⟨⟨h1, h2⟩, h3⟩, h4⟩
  refine ⟨h1, h2, h3, fun n hn => (h4 n hn).1, fun n hn ha hb => ?_⟩
  rcases (h4 n hn).2 with (h | h) | h
  ·exact absurd ha h
  ·exact absurd hb h
  ·exact h
 ·intro h
  refine ⟨⟨⟨h.pl, h.cl⟩, h.pv⟩, fun n hn => ⟨h.cv n hn, ?_⟩⟩
  by_cases ha : 0 ≤ (dg c n).frm
  ·by_cases hb : 0 ≤ (dg c n).dst
   ·exact .inr (h.cc n hn ha hb)
   ·exact .inl (.inr hb)
  ·exact .inl (.inl ha)
def cD (c : Ci) (s : Ns) (p j : Nat) : Hd := if 0 < (fk s (oG (ba c p) j)).length then ⟨true, (fk s (oG (ba c p) j)).getD 0 0⟩ else aY
def hC (c : Ci) (s : Ns) (p : Nat) : List Hd := tab (cD c s p) (ba c p).takes.length
def co (c : Ci) (s : Ns) (p j : Nat) : Bool := decide ((dg c (oH (ba c p) j)).dst = -1) || decide (((fk s (oH (ba c p) j)).length : Int) < (dg c (oH (ba c p) j)).cap)
def i7 (c : Ci) (s : Ns) (p : Nat) : List Bool := tab (co c s p) (ba c p).puts.length
def ab (c : Ci) (s : Ns) (p : Nat) : Fi := a6 (ba c p) (BX s p) (hC c s p) (i7 c s p)
def oI (c : Ci) (s : Ns) (p : Nat) : Bool := (ab c s p).fires
theorem B1 (c : Ci) (s : Ns) (p : Nat) : oI c s p = eo (ba c p) (BX s p) (hC c s p) (i7 c s p) := xw _ _ _ _
theorem nd {c : Ci} {s : Ns} (hc : b5 c) (hs : cT c s) {p : Nat} (hp : p < c.procs.length) : xv (ba c p) (hC c s p) where
 l := by rw [hC, aK]
 v := fun i hi hh => by
  rw [hC, bf hi] at hh ⊢
  unfold cD at hh ⊢
  split
  ·rename_i h0
   obtain ⟨k1, k2, k3, k4⟩ := hc.tk p hp i hi
   have := hs.cv (oG (ba c p) i) (by show (jE (ba c p) i).chan.toNat < _; omega) 0 h0
   rw [k3] at this
   exact this
  ·rename_i h0; rw [if_neg h0] at hh; cases hh
def j5 (p : Pr) (f : Fi) : Nat → List Nat
 | 0 => []
 | k + 1 => j5 p f k ++ (if f.pops.getD k false = true then [oG p k] else [])
def nA (p : Pr) (f : Fi) : Nat → List (Nat × Int)
 | 0 => []
 | k + 1 => nA p f k ++ (if (f.puts.getD k aY).has = true then [(oH p k, (f.puts.getD k aY).v)] else [])
def bc (c : Ci) (s : Ns) (w : Nat → Bool) (p : Nat) : Bool := w p && oI c s p
def gl (c : Ci) (s : Ns) (w : Nat → Bool) : Nat → List Nat
 | 0 => []
 | p + 1 => gl c s w p ++ (if bc c s w p = true then j5 (ba c p) (ab c s p) (ba c p).takes.length else [])
def lj (c : Ci) (s : Ns) (w : Nat → Bool) : Nat → List (Nat × Int)
 | 0 => []
 | p + 1 => lj c s w p ++ (if bc c s w p = true then nA (ba c p) (ab c s p) (ba c p).puts.length else [])
def bn (l : List (List Int)) (ev : List Nat) : List (List Int) := ev.foldl (fun l n => l.set n ((l.getD n []).drop 1)) l
def bK (l : List (List Int)) (ev : List (Nat × Int)) : List (List Int) := ev.foldl (fun l e => l.set e.1 (l.getD e.1 [] ++ [e.2])) l
def hD (c : Ci) (s : Ns) (p n : Nat) : Bool := decide (n ∈ j5 (ba c p) (ab c s p) (ba c p).takes.length)
def iq (c : Ci) (s : Ns) (p n : Nat) : List Int := ((nA (ba c p) (ab c s p) (ba c p).puts.length).filter (fun e => e.1 == n)).map (·.2)
def oJ (c : Ci) (n : Nat) : Nat := (dg c n).dst.toNat
def i8 (c : Ci) (n : Nat) : Nat := (dg c n).frm.toNat
def jt (c : Ci) (s : Ns) (w : Nat → Bool) (n : Nat) : Nat := if bc c s w (oJ c n) = true ∧ hD c s (oJ c n) n = true then 1 else 0
def fp (c : Ci) (s : Ns) (w : Nat → Bool) (n : Nat) : List Int := if bc c s w (i8 c n) = true then iq c s (i8 c n) n else []
def j6 (c : Ci) (s : Ns) (w : Nat → Bool) (n : Nat) : List Int := (fk s n).drop (jt c s w n) ++ fp c s w n
def gm (c : Ci) (s : Ns) (w : Nat → Bool) (p : Nat) : Ps := if bc c s w p = true then (ab c s p).s else BX s p
def dp (c : Ci) (s : Ns) (w : Nat → Bool) : Ns := ⟨tab (gm c s w) c.procs.length, tab (j6 c s w) c.chans.length⟩
theorem p9 {p : Pr} {f : Fi} {n : Nat} : ∀ {k : Nat}, n ∈ j5 p f k → ∃ j, j < k ∧ f.pops.getD j false = true ∧ oG p j = n
 | 0, h => by cases h
 | k + 1, h => by
  rw [j5, List.mem_append] at h
  rcases h with h | h
  ·obtain ⟨j, h1, h2⟩ := p9 h; exact ⟨j, by omega, h2⟩
  ·split at h
   ·rename_i hh; simp only [List.mem_singleton] at h; exact ⟨k, by omega, hh, h.symm⟩
   ·cases h
theorem qa {p : Pr} {f : Fi} {e : Nat × Int} : ∀ {k : Nat}, e ∈ nA p f k → ∃ j, j < k ∧ (f.puts.getD j aY).has = true ∧ oH p j = e.1 ∧ (f.puts.getD j aY).v = e.2
 | 0, h => by cases h
 | k + 1, h => by
  rw [nA, List.mem_append] at h
  rcases h with h | h
  ·obtain ⟨j, h1, h2⟩ := qa h; exact ⟨j, by omega, h2⟩
  ·split at h
   ·rename_i hh; simp only [List.mem_singleton] at h; subst h; exact ⟨k, by omega, hh, rfl, rfl⟩
   ·cases h
theorem dq (ev : List Nat) : ∀ (l : List (List Int)), (bn l ev).length = l.length := by
 induction ev with
 | nil => intro l; rfl
 | cons n r ih => intro l; show (bn _ r).length = _; rw [ih]; simp
theorem gO (ev : List (Nat × Int)) : ∀ (l : List (List Int)), (bK l ev).length = l.length := by
 induction ev with
 | nil => intro l; rfl
 | cons n r ih => intro l; show (bK _ r).length = _; rw [ih]; simp
theorem uK (l : List (List Int)) (ev : List Nat) (n : Nat) : bn l (ev ++ [n]) = (bn l ev).set n (((bn l ev).getD n []).drop 1) := by simp [bn, List.foldl_append]
theorem uL (l : List (List Int)) (ev : List (Nat × Int)) (n : Nat) (v : Int) : bK l (ev ++ [(n, v)]) = (bK l ev).set n ((bK l ev).getD n [] ++ [v]) := by simp [bK, List.foldl_append]
theorem j7 (ev : List Nat) : ∀ (l : List (List Int)) (n : Nat), n < l.length → (bn l ev).getD n [] = (l.getD n []).drop (ev.count n) := by
 induction ev with
 | nil => intro l n hn; simp [bn]
 | cons m r ih =>
  intro l n hn
  show (bn (l.set m _) r).getD n [] = _
  rw [ih _ n (by simpa using hn), List.count_cons]
  by_cases e : m = n
  ·subst e
   rw [b3 hn, if_pos rfl, List.drop_drop]
   simp [Nat.add_comm]
  ·by_cases hm : m < l.length
   ·rw [b3 hm, if_neg e]; simp [e]
   ·rw [List.set_eq_of_length_le (by omega)]; simp [e]
theorem pB (ev : List (Nat × Int)) : ∀ (l : List (List Int)) (n : Nat), n < l.length → (bK l ev).getD n [] = l.getD n [] ++ (ev.filter (fun e => e.1 == n)).map (·.2) := by
 induction ev with
 | nil => intro l n hn; simp [bK]
 | cons m r ih =>
  intro l n hn
  show (bK (l.set m.1 _) r).getD n [] = _
  rw [ih _ n (by simpa using hn)]
  by_cases e : m.1 = n
  ·subst e
   rw [b3 hn, if_pos rfl]
   simp
  ·by_cases hm : m.1 < l.length
   ·rw [b3 hm, if_neg e]; simp [e]
   ·rw [List.set_eq_of_length_le (by omega)]; simp [e]
section
variable {c : Ci} {s : Ns} {w : Nat → Bool}
theorem uM (hc : b5 c) {p n : Nat} (hp : p < c.procs.length) {f : Fi} {k : Nat} (hk : k ≤ (ba c p).takes.length) (h : n ∈ j5 (ba c p) f k) : n < c.chans.length ∧ (dg c n).dst = p := by
 obtain ⟨j, h1, h2, rfl⟩ := p9 h
 obtain ⟨k1, k2, k3, k4⟩ := hc.tk p hp j (by omega)
 exact ⟨by show (jE (ba c p) j).chan.toNat < _; omega, k4⟩
theorem DT (hc : b5 c) {p : Nat} {e : Nat × Int} (hp : p < c.procs.length) {f : Fi} {k : Nat} (hk : k ≤ (ba c p).puts.length) (h : e ∈ nA (ba c p) f k) : e.1 < c.chans.length ∧ (dg c e.1).frm = p := by
 obtain ⟨j, h1, h2, h3, h4⟩ := qa h
 obtain ⟨k1, k2, k3, k4⟩ := hc.pt p hp j (by omega)
 rw [← h3]
 exact ⟨by show (fa (ba c p) j).chan.toNat < _; omega, k4⟩
theorem oL (hc : b5 c) {p : Nat} (n : Nat) (hp : p < c.procs.length) {f : Fi} : ∀ {k : Nat}, k ≤ (ba c p).takes.length → (j5 (ba c p) f k).count n = if n ∈ j5 (ba c p) f k then 1 else 0
 | 0, _ => by simp [j5]
 | k + 1, hk => by
  have ih := oL hc n hp (f := f) (k := k) (by omega)
  rw [j5, List.count_append, ih]
  by_cases h1 : f.pops.getD k false = true
  ·rw [if_pos h1]
   by_cases e : oG (ba c p) k = n
   ·have : n ∉ j5 (ba c p) f k := by
     intro hm
     obtain ⟨j, g1, g2, g3⟩ := p9 hm
     have := hc.td p hp j k (by omega) (by omega) (by rw [g3, e])
     omega
    rw [if_neg this, e, List.count_singleton_self, if_pos (List.mem_append_right _ (List.mem_singleton.2 rfl))]
   ·have e3 : ([oG (ba c p) k]).count n = 0 := List.count_eq_zero.2 (by rw [List.mem_singleton]; exact fun h => e h.symm)
    rw [e3, Nat.add_zero]
    by_cases hm : n ∈ j5 (ba c p) f k
    ·rw [if_pos hm, if_pos (List.mem_append_left _ hm)]
    ·rw [if_neg hm, if_neg]
     intro h
     rcases List.mem_append.1 h with h | h
     ·exact hm h
     ·exact e (List.mem_singleton.1 h).symm
  ·rw [if_neg h1, List.append_nil]; rfl
theorem wb {n : Nat} : ∀ {P : Nat}, n ∈ gl c s w P → ∃ p, p < P ∧ bc c s w p = true ∧ n ∈ j5 (ba c p) (ab c s p) (ba c p).takes.length
 | 0, h => by cases h
 | P + 1, h => by
  rw [gl, List.mem_append] at h
  rcases h with h | h
  ·obtain ⟨j, h1, h2⟩ := wb h; exact ⟨j, by omega, h2⟩
  ·split at h
   ·rename_i hh; exact ⟨P, by omega, hh, h⟩
   ·cases h
theorem ru (hc : b5 c) (n : Nat) : ∀ {P : Nat}, P ≤ c.procs.length → (gl c s w P).count n = if oJ c n < P then jt c s w n else 0
 | 0, _ => by simp [gl]
 | P + 1, hP => by
  have ih := ru hc n (P := P) (by omega)
  rw [gl, List.count_append, ih]
  by_cases hd : oJ c n = P
  ·rw [if_neg (show ¬oJ c n < P by omega), if_pos (show oJ c n < P + 1 by omega), jt, hd, Nat.zero_add]
   by_cases hf : bc c s w P = true
   ·rw [if_pos hf, oL hc n (by omega) (Nat.le_refl _)]
    simp [hD, hf]
   ·rw [if_neg hf]; simp [hf]
  ·have h0 : (if bc c s w P = true then j5 (ba c P) (ab c s P) (ba c P).takes.length else []).count n = 0 := by
    split
    ·rw [oL hc n (by omega) (Nat.le_refl _), if_neg]
     intro hm
     have := (uM hc (by omega) (Nat.le_refl _) hm).2
     exact hd (by rw [oJ, this]; rfl)
    ·rfl
   rw [h0]
   by_cases h1 : oJ c n < P
   ·rw [if_pos h1, if_pos (show oJ c n < P + 1 by omega)]; rfl
   ·rw [if_neg h1, if_neg (show ¬oJ c n < P + 1 by omega)]
theorem B2 (hc : b5 c) {p n : Nat} (h : hD c s p n = true) : p < c.procs.length := by
 by_cases hp : p < c.procs.length
 ·exact hp
 ·unfold hD at h
  have e : ba c p = aB := by rw [ba, List.getD, List.getElem?_eq_none (by omega)]; rfl
  rw [e] at h
  simp [j5] at h
theorem DU (hc : b5 c) (n : Nat) : (if oJ c n < c.procs.length then jt c s w n else 0) = jt c s w n := by
 split
 ·rfl
 ·rename_i h
  rw [jt, if_neg]
  rintro ⟨_, h2⟩
  exact h (B2 hc h2)
theorem DV (hc : b5 c) {p n : Nat} (hp : p < c.procs.length) (hd : ¬i8 c n = p) (f : Fi) : (nA (ba c p) f (ba c p).puts.length).filter (fun e => e.1 == n) = [] := by
 rw [List.filter_eq_nil_iff]
 intro e he h
 have h1 : e.1 = n := by simpa using h
 have := (DT hc hp (Nat.le_refl _) he).2
 rw [h1] at this
 exact hd (by rw [i8, this]; rfl)
theorem wc (hc : b5 c) (n : Nat) : ∀ {P : Nat}, P ≤ c.procs.length → ((lj c s w P).filter (fun e => e.1 == n)).map (·.2) = if i8 c n < P then fp c s w n else []
 | 0, _ => by simp [lj]
 | P + 1, hP => by
  have ih := wc hc n (P := P) (by omega)
  rw [lj, List.filter_append, List.map_append, ih]
  by_cases hd : i8 c n = P
  ·rw [if_neg (show ¬i8 c n < P by omega), if_pos (show i8 c n < P + 1 by omega), fp, hd]
   by_cases hf : bc c s w P = true
   ·rw [if_pos hf, if_pos hf]; rfl
   ·rw [if_neg hf, if_neg hf]; rfl
  ·have h0 : (if bc c s w P = true then nA (ba c P) (ab c s P) (ba c P).puts.length else []).filter (fun e => e.1 == n) = [] := by
    split
    ·exact DV hc (by omega) hd _
    ·rfl
   rw [h0]
   by_cases h1 : i8 c n < P
   ·rw [if_pos h1, if_pos (show i8 c n < P + 1 by omega)]; exact List.append_nil _
   ·rw [if_neg h1, if_neg (show ¬i8 c n < P + 1 by omega)]; rfl
theorem rx {p n : Nat} (hp : ¬p < c.procs.length) : iq c s p n = [] := by
 have e : ba c p = aB := by rw [ba, List.getD, List.getElem?_eq_none (by omega)]; rfl
 unfold iq
 rw [e]; rfl
theorem DW (n : Nat) : (if i8 c n < c.procs.length then fp c s w n else []) = fp c s w n := by
 split
 ·rfl
 ·rename_i h
  rw [fp]
  split
  ·rw [rx h]
  ·rfl
theorem z8 (hc : b5 c) (hs : s.chans.length = c.chans.length) : bK (bn s.chans (gl c s w c.procs.length)) (lj c s w c.procs.length) = (dp c s w).chans := by
 refine v7 (d := []) ?_ (fun n hn => ?_)
 ·rw [gO, dq, dp, aK, hs]
 ·rw [gO, dq] at hn
  rw [pB _ _ _ (by rw [dq]; exact hn), j7 _ _ _ hn, ru hc n (Nat.le_refl _), wc hc n (Nat.le_refl _), DU hc, DW]
  show _ = (tab (j6 c s w) c.chans.length).getD n []
  rw [bf (by omega)]
  rfl
end
end Go.Proofs.YtgmpoenfoacofaaGreat
