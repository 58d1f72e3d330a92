/-
  Circuits, plain data: what firing does, channel by channel.
-/
import Derived.Test.YtnlmlkbaflmgcaaQNeA
namespace Go.Proofs.Ytnlmlkbaflmgcaa
open Go.RowKit
set_option linter.unusedVariables false
set_option linter.unusedSimpArgs false
structure Ch where
 name : ByteArray
 w : Int
 cap : Int
 frm : Int
 dst : Int
abbrev ax : Ch := ⟨e0, 0, 0, 0, 0⟩
structure Ci where
 procs : List Pr
 chans : List Ch
structure Ns where
 procs : List Ps
 chans : List (List Int)
def bH (c : Ch) : List V := [.str c.name, .int .i64 c.w, .int .i64 c.cap, .int .i64 c.frm, .int .i64 c.dst]
abbrev KH : Ci := ⟨[], []⟩
abbrev L2 : Ns := ⟨[], []⟩
abbrev bD (c : Ci) (i : Nat) : Pr := c.procs.getD i ac
abbrev i3 (c : Ci) (n : Nat) : Ch := c.chans.getD n ax
abbrev E4 (s : Ns) (i : Nat) : Ps := s.procs.getD i aX
abbrev oq (s : Ns) (n : Nat) : List Int := s.chans.getD n []
abbrev t1 (p : Pr) (j : Nat) : Nat := (mu p j).chan.toNat
abbrev qF (p : Pr) (j : Nat) : Nat := (pz p j).chan.toNat
structure b5 (c : Ci) : Prop where
 n1 : 1 ≤ c.procs.length
 nl : c.procs.length ≤ 100
 cl : c.chans.length ≤ 100
 pr : ∀ i, i < c.procs.length → im (bD c i)
 tk : ∀ i, i < c.procs.length → ∀ j, j < (bD c i).takes.length → 0 ≤ (mu (bD c i) j).chan ∧ (mu (bD c i) j).chan < c.chans.length ∧ (i3 c (t1 (bD c i) j)).w = (mu (bD c i) j).w ∧ (i3 c (t1 (bD c i) j)).dst = i
 pt : ∀ i, i < c.procs.length → ∀ j, j < (bD c i).puts.length → 0 ≤ (pz (bD c i) j).chan ∧ (pz (bD c i) j).chan < c.chans.length ∧ (i3 c (qF (bD c i) j)).w = (pz (bD c i) j).w ∧ (i3 c (qF (bD c i) j)).frm = i
 td : ∀ i, i < c.procs.length → ∀ j k, j < (bD c i).takes.length → k < (bD c i).takes.length → t1 (bD c i) j = t1 (bD c i) k → j = k
 pd : ∀ i, i < c.procs.length → ∀ j k, j < (bD c i).puts.length → k < (bD c i).puts.length → qF (bD c i) j = qF (bD c i) k → j = k
 cw : ∀ n, n < c.chans.length → aI (i3 c n).w = true
 cp : ∀ n, n < c.chans.length → 0 ≤ (i3 c n).cap
structure gC (c : Ci) (s : Ns) : Prop where
 pl : s.procs.length = c.procs.length
 cl : s.chans.length = c.chans.length
 pv : ∀ i, i < c.procs.length → pA (bD c i) (E4 s i)
 cv : ∀ n, n < c.chans.length → ∀ i, i < (oq s n).length → dG ((oq s n).getD i 0) (i3 c n).w
 cc : ∀ n, n < c.chans.length → 0 ≤ (i3 c n).frm → 0 ≤ (i3 c n).dst → ((oq s n).length : Int) ≤ (i3 c n).cap
def ip (c : Ci) (s : Ns) (p j : Nat) : Hd := if 0 < (oq s (t1 (bD c p) j)).length then ⟨true, (oq s (t1 (bD c p) j)).getD 0 0⟩ else cG
def cI (c : Ci) (s : Ns) (p : Nat) : List Hd := tab (ip c s p) (bD c p).takes.length
def gm (c : Ci) (s : Ns) (p j : Nat) : Bool := decide ((i3 c (qF (bD c p) j)).dst = -1) || decide (((oq s (qF (bD c p) j)).length : Int) < (i3 c (qF (bD c p) j)).cap)
def cR (c : Ci) (s : Ns) (p : Nat) : List Bool := tab (gm c s p) (bD c p).puts.length
def aA (c : Ci) (s : Ns) (p : Nat) : Fi := bi (bD c p) (E4 s p) (cI c s p) (cR c s p)
def wR (c : Ci) (s : Ns) (p : Nat) : Bool := (aA c s p).fires
def iq (c : Ci) (s : Ns) (p : Int) : Bool := decide (0 ≤ p) && (decide (p < c.procs.length) && wR c s p.toNat)
theorem Dr (c : Ci) (s : Ns) (p : Nat) : wR c s p = il (bD c p) (E4 s p) (cI c s p) (cR c s p) := yx _ _ _ _
theorem rY {c : Ci} {s : Ns} (hc : b5 c) (hs : gC c s) {p : Nat} (hp : p < c.procs.length) : BA (bD c p) (cI c s p) where
 l := by rw [cI, aL]
 v := fun i hi hh => by
  rw [cI, aY hi] at hh ⊢
  unfold ip at hh ⊢
  split
  ·rename_i h0
   obtain ⟨k1, k2, k3, k4⟩ := hc.tk p hp i hi
   have := hs.cv (t1 (bD c p) i) (by show (mu (bD c p) i).chan.toNat < _; omega) 0 h0
   rw [k3] at this
   exact this
  ·rename_i h0; rw [if_neg h0] at hh; cases hh
def sO (p : Pr) (f : Fi) : Nat → List Nat
 | 0 => []
 | k + 1 => sO p f k ++ (if f.pops.getD k false = true then [t1 p k] else [])
def sP (p : Pr) (f : Fi) : Nat → List (Nat × Int)
 | 0 => []
 | k + 1 => sP p f k ++ (if (f.puts.getD k cG).has = true then [(qF p k, (f.puts.getD k cG).v)] else [])
def bp (c : Ci) (s : Ns) (w : Nat → Bool) (p : Nat) : Bool := w p && wR c s p
def pB (c : Ci) (s : Ns) (w : Nat → Bool) : Nat → List Nat
 | 0 => []
 | p + 1 => pB c s w p ++ (if bp c s w p = true then sO (bD c p) (aA c s p) (bD c p).takes.length else [])
def nj (c : Ci) (s : Ns) (w : Nat → Bool) : Nat → List (Nat × Int)
 | 0 => []
 | p + 1 => nj c s w p ++ (if bp c s w p = true then sP (bD c p) (aA c s p) (bD c p).puts.length else [])
def cO (l : List Int) (ev : List Nat) : List Int := ev.foldl (fun l n => l.set n 1) l
def cB (l : List (Option Int)) (ev : List (Nat × Int)) : List (Option Int) := ev.foldl (fun l e => l.set e.1 (some e.2)) l
def jY (c : Ci) (s : Ns) (p n : Nat) : Bool := decide (n ∈ sO (bD c p) (aA c s p) (bD c p).takes.length)
def vp (c : Ci) (s : Ns) (p n : Nat) : List Int := ((sP (bD c p) (aA c s p) (bD c p).puts.length).filter (fun e => e.1 == n)).map (·.2)
def qn (c : Ci) (n : Nat) : Nat := (i3 c n).dst.toNat
def my (c : Ci) (n : Nat) : Nat := (i3 c n).frm.toNat
def ir (c : Ci) (s : Ns) (w : Nat → Bool) (n : Nat) : Nat := if bp c s w (qn c n) = true ∧ jY c s (qn c n) n = true then 1 else 0
def gG (c : Ci) (s : Ns) (w : Nat → Bool) (n : Nat) : List Int := if bp c s w (my c n) = true then vp c s (my c n) n else []
def it (c : Ci) (s : Ns) (w : Nat → Bool) (n : Nat) : List Int := (oq s n).drop (ir c s w n) ++ gG c s w n
def cS (c : Ci) (s : Ns) (w : Nat → Bool) (p : Nat) : Ps := if bp c s w p = true then (aA c s p).s else E4 s p
def cK (c : Ci) (s : Ns) (w : Nat → Bool) : Ns := ⟨tab (cS c s w) c.procs.length, tab (it c s w) c.chans.length⟩
theorem qG {p : Pr} {f : Fi} {n : Nat} : ∀ {k : Nat}, n ∈ sO p f k → ∃ j, j < k ∧ f.pops.getD j false = true ∧ t1 p j = n
 | 0, h => by cases h
 | k + 1, h => by
  rw [sO, List.mem_append] at h
  rcases h with h | h
  ·obtain ⟨j, h1, h2⟩ := qG h; exact ⟨j, by omega, h2⟩
  ·split at h
   ·rename_i hh; simp only [List.mem_singleton] at h; exact ⟨k, by omega, hh, h.symm⟩
   ·cases h
theorem ot {p : Pr} {f : Fi} {e : Nat × Int} : ∀ {k : Nat}, e ∈ sP p f k → ∃ j, j < k ∧ (f.puts.getD j cG).has = true ∧ qF p j = e.1 ∧ (f.puts.getD j cG).v = e.2
 | 0, h => by cases h
 | k + 1, h => by
  rw [sP, List.mem_append] at h
  rcases h with h | h
  ·obtain ⟨j, h1, h2⟩ := ot h; exact ⟨j, by omega, h2⟩
  ·split at h
   ·rename_i hh; simp only [List.mem_singleton] at h; subst h; exact ⟨k, by omega, hh, rfl, rfl⟩
   ·cases h
theorem pY (ev : List Nat) : ∀ (l : List Int), (cO l ev).length = l.length := by
 induction ev with
 | nil => intro l; rfl
 | cons n r ih => intro l; show (cO _ r).length = _; rw [ih]; simp
theorem pZ (ev : List (Nat × Int)) : ∀ (l : List (Option Int)), (cB l ev).length = l.length := by
 induction ev with
 | nil => intro l; rfl
 | cons n r ih => intro l; show (cB _ r).length = _; rw [ih]; simp
theorem vq (l : List Int) (ev : List Nat) (n : Nat) : cO l (ev ++ [n]) = (cO l ev).set n 1 := by simp [cO, List.foldl_append]
theorem vt (l : List (Option Int)) (ev : List (Nat × Int)) (n : Nat) (v : Int) : cB l (ev ++ [(n, v)]) = (cB l ev).set n (some v) := by simp [cB, List.foldl_append]
theorem wS (ev : List Nat) : ∀ (l : List Int) (n : Nat), n < l.length → (cO l ev).getD n 0 = if n ∈ ev then 1 else l.getD n 0 := by
 induction ev with
 | nil => intro l n hn; simp [cO]
 | cons m r ih =>
  intro l n hn
  show (cO (l.set m _) r).getD n 0 = _
  rw [ih _ n (by simpa using hn)]
  by_cases hr : n ∈ r
  ·rw [if_pos hr, if_pos (by simp [hr])]
  ·rw [if_neg hr]
   by_cases e : m = n
   ·subst e
    rw [fP hn, if_pos rfl, if_pos (by simp)]
   ·rw [if_neg (by simp [hr]; omega)]
    by_cases hm : m < l.length
    ·rw [fP hm, if_neg e]
    ·rw [List.set_eq_of_length_le (by omega)]
section
variable {c : Ci} {s : Ns} {w : Nat → Bool}
theorem FK (hc : b5 c) {p n : Nat} (hp : p < c.procs.length) {f : Fi} {k : Nat} (hk : k ≤ (bD c p).takes.length) (h : n ∈ sO (bD c p) f k) : n < c.chans.length ∧ (i3 c n).dst = p := by
 obtain ⟨j, h1, h2, rfl⟩ := qG h
 obtain ⟨k1, k2, k3, k4⟩ := hc.tk p hp j (by omega)
 exact ⟨by show (mu (bD c p) j).chan.toNat < _; omega, k4⟩
theorem zS (hc : b5 c) {p : Nat} {e : Nat × Int} (hp : p < c.procs.length) {f : Fi} {k : Nat} (hk : k ≤ (bD c p).puts.length) (h : e ∈ sP (bD c p) f k) : e.1 < c.chans.length ∧ (i3 c e.1).frm = p := by
 obtain ⟨j, h1, h2, h3, h4⟩ := ot h
 obtain ⟨k1, k2, k3, k4⟩ := hc.pt p hp j (by omega)
 rw [← h3]
 exact ⟨by show (pz (bD c p) j).chan.toNat < _; omega, k4⟩
theorem pC (hc : b5 c) {p : Nat} (n : Nat) (hp : p < c.procs.length) {f : Fi} : ∀ {k : Nat}, k ≤ (bD c p).takes.length → (sO (bD c p) f k).count n = if n ∈ sO (bD c p) f k then 1 else 0
 | 0, _ => by simp [sO]
 | k + 1, hk => by
  have ih := pC hc n hp (f := f) (k := k) (by omega)
  rw [sO, List.count_append, ih]
  by_cases h1 : f.pops.getD k false = true
  ·rw [if_pos h1]
   by_cases e : t1 (bD c p) k = n
   ·have : n ∉ sO (bD c p) f k := by
     intro hm
     obtain ⟨j, g1, g2, g3⟩ := qG hm
     have := hc.td p hp j k (by omega) (by omega) (by rw [g3, e])
     omega
    rw [if_neg this, e, List.count_singleton_self, if_pos (List.mem_append_right _ (List.mem_singleton.2 rfl))]
   ·have e3 : ([t1 (bD c p) k]).count n = 0 := List.count_eq_zero.2 (by rw [List.mem_singleton]; exact fun h => e h.symm)
    rw [e3, Nat.add_zero]
    by_cases hm : n ∈ sO (bD c p) f k
    ·rw [if_pos hm, if_pos (List.mem_append_left _ hm)]
    ·rw [if_neg hm, if_neg]
     intro h
     rcases List.mem_append.1 h with h | h
     ·exact hm h
     ·exact e (List.mem_singleton.1 h).symm
  ·rw [if_neg h1, List.append_nil]; rfl
theorem rZ (hc : b5 c) (n : Nat) : ∀ {P : Nat}, P ≤ c.procs.length → (pB c s w P).count n = if qn c n < P then ir c s w n else 0
 | 0, _ => by simp [pB]
 | P + 1, hP => by
  have ih := rZ hc n (P := P) (by omega)
  rw [pB, List.count_append, ih]
  by_cases hd : qn c n = P
  ·rw [if_neg (show ¬qn c n < P by omega), if_pos (show qn c n < P + 1 by omega), ir, hd, Nat.zero_add]
   by_cases hf : bp c s w P = true
   ·rw [if_pos hf, pC hc n (by omega) (Nat.le_refl _)]
    simp [jY, hf]
   ·rw [if_neg hf]; simp [hf]
  ·have h0 : (if bp c s w P = true then sO (bD c P) (aA c s P) (bD c P).takes.length else []).count n = 0 := by
    split
    ·rw [pC hc n (by omega) (Nat.le_refl _), if_neg]
     intro hm
     have := (FK hc (by omega) (Nat.le_refl _) hm).2
     exact hd (by rw [qn, this]; rfl)
    ·rfl
   rw [h0]
   by_cases h1 : qn c n < P
   ·rw [if_pos h1, if_pos (show qn c n < P + 1 by omega)]; rfl
   ·rw [if_neg h1, if_neg (show ¬qn c n < P + 1 by omega)]
theorem Ds (hc : b5 c) {p n : Nat} (h : jY c s p n = true) : p < c.procs.length := by
 by_cases hp : p < c.procs.length
 ·exact hp
 ·unfold jY at h
  have e : bD c p = ac := by rw [bD, List.getD, List.getElem?_eq_none (by omega)]; rfl
  rw [e] at h
  simp [sO] at h
theorem FL (hc : b5 c) (n : Nat) : (if qn c n < c.procs.length then ir c s w n else 0) = ir c s w n := by
 split
 ·rfl
 ·rename_i h
  rw [ir, if_neg]
  rintro ⟨_, h2⟩
  exact h (Ds hc h2)
theorem FM (hc : b5 c) {p n : Nat} (hp : p < c.procs.length) (hd : ¬my c n = p) (f : Fi) : (sP (bD c p) f (bD c p).puts.length).filter (fun e => e.1 == n) = [] := by
 rw [List.filter_eq_nil_iff]
 intro e he h
 have h1 : e.1 = n := by simpa using h
 have := (zS hc hp (Nat.le_refl _) he).2
 rw [h1] at this
 exact hd (by rw [my, this]; rfl)
theorem r6 (hc : b5 c) (n : Nat) : ∀ {P : Nat}, P ≤ c.procs.length → ((nj c s w P).filter (fun e => e.1 == n)).map (·.2) = if my c n < P then gG c s w n else []
 | 0, _ => by simp [nj]
 | P + 1, hP => by
  have ih := r6 hc n (P := P) (by omega)
  rw [nj, List.filter_append, List.map_append, ih]
  by_cases hd : my c n = P
  ·rw [if_neg (show ¬my c n < P by omega), if_pos (show my c n < P + 1 by omega), gG, hd]
   by_cases hf : bp c s w P = true
   ·rw [if_pos hf, if_pos hf]; rfl
   ·rw [if_neg hf, if_neg hf]; rfl
  ·have h0 : (if bp c s w P = true then sP (bD c P) (aA c s P) (bD c P).puts.length else []).filter (fun e => e.1 == n) = [] := by
    split
    ·exact FM hc (by omega) hd _
    ·rfl
   rw [h0]
   by_cases h1 : my c n < P
   ·rw [if_pos h1, if_pos (show my c n < P + 1 by omega)]; exact List.append_nil _
   ·rw [if_neg h1, if_neg (show ¬my c n < P + 1 by omega)]; rfl
theorem ou {p n : Nat} (hp : ¬p < c.procs.length) : vp c s p n = [] := by
 have e : bD c p = ac := by rw [bD, List.getD, List.getElem?_eq_none (by omega)]; rfl
 unfold vp
 rw [e]; rfl
theorem zT (n : Nat) : (if my c n < c.procs.length then gG c s w n else []) = gG c s w n := by
 split
 ·rfl
 ·rename_i h
  rw [gG]
  split
  ·rw [ou h]
  ·rfl
end
end Go.Proofs.Ytnlmlkbaflmgcaa
