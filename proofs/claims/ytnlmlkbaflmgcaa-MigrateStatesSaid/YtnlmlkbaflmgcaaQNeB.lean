/-
  Circuits, plain data: what firing does, channel by channel.
-/
import Derived.Test.YtnlmlkbaflmgcaaQNeA
namespace Go.Proofs.Ytnlmlkbaflmgcaa
open Go.RowKit
set_option linter.unusedVariables false
set_option linter.unusedSimpArgs false
structure Ch where
 name : ByteArray
 w : Int
 cap : Int
 frm : Int
 dst : Int
abbrev ax : Ch := ⟨e0, 0, 0, 0, 0⟩
structure Ci where
 procs : List Pr
 chans : List Ch
structure Ns where
 procs : List Ps
 chans : List (List Int)
def bD (c : Ch) : List V := [.str c.name, .int .i64 c.w, .int .i64 c.cap, .int .i64 c.frm, .int .i64 c.dst]
abbrev Kd : Ci := ⟨[], []⟩
abbrev Lv : Ns := ⟨[], []⟩
abbrev bx (c : Ci) (i : Nat) : Pr := c.procs.getD i af
abbrev eI (c : Ci) (n : Nat) : Ch := c.chans.getD n ax
abbrev yu (s : Ns) (i : Nat) : Ps := s.procs.getD i aZ
abbrev jJ (s : Ns) (n : Nat) : List Int := s.chans.getD n []
abbrev tV (p : Pr) (j : Nat) : Nat := (lY p j).chan.toNat
abbrev qx (p : Pr) (j : Nat) : Nat := (pu p j).chan.toNat
structure bX (c : Ci) : Prop where
 n1 : 1 ≤ c.procs.length
 nl : c.procs.length ≤ 100
 cl : c.chans.length ≤ 100
 pr : ∀ i, i < c.procs.length → ga (bx c i)
 tk : ∀ i, i < c.procs.length → ∀ j, j < (bx c i).takes.length → 0 ≤ (lY (bx c i) j).chan ∧ (lY (bx c i) j).chan < c.chans.length ∧ (eI c (tV (bx c i) j)).w = (lY (bx c i) j).w ∧ (eI c (tV (bx c i) j)).dst = i
 pt : ∀ i, i < c.procs.length → ∀ j, j < (bx c i).puts.length → 0 ≤ (pu (bx c i) j).chan ∧ (pu (bx c i) j).chan < c.chans.length ∧ (eI c (qx (bx c i) j)).w = (pu (bx c i) j).w ∧ (eI c (qx (bx c i) j)).frm = i
 td : ∀ i, i < c.procs.length → ∀ j k, j < (bx c i).takes.length → k < (bx c i).takes.length → tV (bx c i) j = tV (bx c i) k → j = k
 pd : ∀ i, i < c.procs.length → ∀ j k, j < (bx c i).puts.length → k < (bx c i).puts.length → qx (bx c i) j = qx (bx c i) k → j = k
 cw : ∀ n, n < c.chans.length → aI (eI c n).w = true
 cp : ∀ n, n < c.chans.length → 0 ≤ (eI c n).cap
def eJ (l : List Int) (w : Int) : Bool := cF (fun i => ef (l.getD i 0) w) l.length
def hY (c : Ci) (s : Ns) (n : Nat) : Bool := eJ (jJ s n) (eI c n).w && (!(decide (0 ≤ (eI c n).frm) && decide (0 ≤ (eI c n).dst)) || decide (((jJ s n).length : Int) ≤ (eI c n).cap))
def bN (c : Ci) (s : Ns) : Bool := decide (s.procs.length = c.procs.length) && decide (s.chans.length = c.chans.length) && cF (fun i => bw (bx c i) (yu s i)) c.procs.length && cF (hY c s) c.chans.length
structure fB (c : Ci) (s : Ns) : Prop where
 pl : s.procs.length = c.procs.length
 cl : s.chans.length = c.chans.length
 pv : ∀ i, i < c.procs.length → mS (bx c i) (yu s i)
 cv : ∀ n, n < c.chans.length → ∀ i, i < (jJ s n).length → cE ((jJ s n).getD i 0) (eI c n).w
 cc : ∀ n, n < c.chans.length → 0 ≤ (eI c n).frm → 0 ≤ (eI c n).dst → ((jJ s n).length : Int) ≤ (eI c n).cap
theorem De {l : List Int} {w : Int} : eJ l w = true ↔ ∀ i, i < l.length → cE (l.getD i 0) w := by
 unfold eJ
 simp only [bi, wP]
theorem yv {c : Ci} {s : Ns} : bN c s = true ↔ fB c s := by
 unfold bN hY
 simp only [Bool.and_eq_true, decide_eq_true_eq, bi, Br, De, Bool.or_eq_true, Bool.not_eq_true', Bool.and_eq_false_iff, decide_eq_false_iff_not]
 constructor
 ·rintro ⟨⟨⟨h1, h2⟩, h3⟩, h4⟩
  refine ⟨h1, h2, h3, fun n hn => (h4 n hn).1, fun n hn ha hb => ?_⟩
  rcases (h4 n hn).2 with (h | h) | h
  ·exact absurd ha h
  ·exact absurd hb h
  ·exact h
 ·intro h
  refine ⟨⟨⟨h.pl, h.cl⟩, h.pv⟩, fun n hn => ⟨h.cv n hn, ?_⟩⟩
  by_cases ha : 0 ≤ (eI c n).frm
  ·by_cases hb : 0 ≤ (eI c n).dst
   ·exact .inr (h.cc n hn ha hb)
   ·exact .inl (.inr hb)
  ·exact .inl (.inl ha)
def ia (c : Ci) (s : Ns) (p j : Nat) : Hd := if 0 < (jJ s (tV (bx c p) j)).length then ⟨true, (jJ s (tV (bx c p) j)).getD 0 0⟩ else cz
def cB (c : Ci) (s : Ns) (p : Nat) : List Hd := tab (ia c s p) (bx c p).takes.length
def fS (c : Ci) (s : Ns) (p j : Nat) : Bool := decide ((eI c (qx (bx c p) j)).dst = -1) || decide (((jJ s (qx (bx c p) j)).length : Int) < (eI c (qx (bx c p) j)).cap)
def cL (c : Ci) (s : Ns) (p : Nat) : List Bool := tab (fS c s p) (bx c p).puts.length
def ay (c : Ci) (s : Ns) (p : Nat) : Fi := bk (bx c p) (yu s p) (cB c s p) (cL c s p)
def wQ (c : Ci) (s : Ns) (p : Nat) : Bool := (ay c s p).fires
def ib (c : Ci) (s : Ns) (p : Int) : Bool := decide (0 ≤ p) && (decide (p < c.procs.length) && wQ c s p.toNat)
theorem Df (c : Ci) (s : Ns) (p : Nat) : wQ c s p = hT (bx c p) (yu s p) (cB c s p) (cL c s p) := yr _ _ _ _
theorem rP {c : Ci} {s : Ns} (hc : bX c) (hs : fB c s) {p : Nat} (hp : p < c.procs.length) : Bq (bx c p) (cB c s p) where
 l := by rw [cB, aH]
 v := fun i hi hh => by
  rw [cB, aR hi] at hh ⊢
  unfold ia at hh ⊢
  split
  ·rename_i h0
   obtain ⟨k1, k2, k3, k4⟩ := hc.tk p hp i hi
   have := hs.cv (tV (bx c p) i) (by show (lY (bx c p) i).chan.toNat < _; omega) 0 h0
   rw [k3] at this
   exact this
  ·rename_i h0; rw [if_neg h0] at hh; cases hh
def sJ (p : Pr) (f : Fi) : Nat → List Nat
 | 0 => []
 | k + 1 => sJ p f k ++ (if f.pops.getD k false = true then [tV p k] else [])
def sK (p : Pr) (f : Fi) : Nat → List (Nat × Int)
 | 0 => []
 | k + 1 => sK p f k ++ (if (f.puts.getD k cz).has = true then [(qx p k, (f.puts.getD k cz).v)] else [])
def bq (c : Ci) (s : Ns) (w : Nat → Bool) (p : Nat) : Bool := w p && wQ c s p
def px (c : Ci) (s : Ns) (w : Nat → Bool) : Nat → List Nat
 | 0 => []
 | p + 1 => px c s w p ++ (if bq c s w p = true then sJ (bx c p) (ay c s p) (bx c p).takes.length else [])
def mV (c : Ci) (s : Ns) (w : Nat → Bool) : Nat → List (Nat × Int)
 | 0 => []
 | p + 1 => mV c s w p ++ (if bq c s w p = true then sK (bx c p) (ay c s p) (bx c p).puts.length else [])
def cI (l : List Int) (ev : List Nat) : List Int := ev.foldl (fun l n => l.set n 1) l
def cx (l : List (Option Int)) (ev : List (Nat × Int)) : List (Option Int) := ev.foldl (fun l e => l.set e.1 (some e.2)) l
def jK (c : Ci) (s : Ns) (p n : Nat) : Bool := decide (n ∈ sJ (bx c p) (ay c s p) (bx c p).takes.length)
def vk (c : Ci) (s : Ns) (p n : Nat) : List Int := ((sK (bx c p) (ay c s p) (bx c p).puts.length).filter (fun e => e.1 == n)).map (·.2)
def qf (c : Ci) (n : Nat) : Nat := (eI c n).dst.toNat
def lZ (c : Ci) (n : Nat) : Nat := (eI c n).frm.toNat
def ic (c : Ci) (s : Ns) (w : Nat → Bool) (n : Nat) : Nat := if bq c s w (qf c n) = true ∧ jK c s (qf c n) n = true then 1 else 0
def gi (c : Ci) (s : Ns) (w : Nat → Bool) (n : Nat) : List Int := if bq c s w (lZ c n) = true then vk c s (lZ c n) n else []
def ie (c : Ci) (s : Ns) (w : Nat → Bool) (n : Nat) : List Int := (jJ s n).drop (ic c s w n) ++ gi c s w n
def cM (c : Ci) (s : Ns) (w : Nat → Bool) (p : Nat) : Ps := if bq c s w p = true then (ay c s p).s else yu s p
def cG (c : Ci) (s : Ns) (w : Nat → Bool) : Ns := ⟨tab (cM c s w) c.procs.length, tab (ie c s w) c.chans.length⟩
theorem qy {p : Pr} {f : Fi} {n : Nat} : ∀ {k : Nat}, n ∈ sJ p f k → ∃ j, j < k ∧ f.pops.getD j false = true ∧ tV p j = n
 | 0, h => by cases h
 | k + 1, h => by
  rw [sJ, List.mem_append] at h
  rcases h with h | h
  ·obtain ⟨j, h1, h2⟩ := qy h; exact ⟨j, by omega, h2⟩
  ·split at h
   ·rename_i hh; simp only [List.mem_singleton] at h; exact ⟨k, by omega, hh, h.symm⟩
   ·cases h
theorem n9 {p : Pr} {f : Fi} {e : Nat × Int} : ∀ {k : Nat}, e ∈ sK p f k → ∃ j, j < k ∧ (f.puts.getD j cz).has = true ∧ qx p j = e.1 ∧ (f.puts.getD j cz).v = e.2
 | 0, h => by cases h
 | k + 1, h => by
  rw [sK, List.mem_append] at h
  rcases h with h | h
  ·obtain ⟨j, h1, h2⟩ := n9 h; exact ⟨j, by omega, h2⟩
  ·split at h
   ·rename_i hh; simp only [List.mem_singleton] at h; subst h; exact ⟨k, by omega, hh, rfl, rfl⟩
   ·cases h
theorem pT (ev : List Nat) : ∀ (l : List Int), (cI l ev).length = l.length := by
 induction ev with
 | nil => intro l; rfl
 | cons n r ih => intro l; show (cI _ r).length = _; rw [ih]; simp
theorem pU (ev : List (Nat × Int)) : ∀ (l : List (Option Int)), (cx l ev).length = l.length := by
 induction ev with
 | nil => intro l; rfl
 | cons n r ih => intro l; show (cx _ r).length = _; rw [ih]; simp
theorem vo (l : List Int) (ev : List Nat) (n : Nat) : cI l (ev ++ [n]) = (cI l ev).set n 1 := by simp [cI, List.foldl_append]
theorem vp (l : List (Option Int)) (ev : List (Nat × Int)) (n : Nat) (v : Int) : cx l (ev ++ [(n, v)]) = (cx l ev).set n (some v) := by simp [cx, List.foldl_append]
theorem wR (ev : List Nat) : ∀ (l : List Int) (n : Nat), n < l.length → (cI l ev).getD n 0 = if n ∈ ev then 1 else l.getD n 0 := by
 induction ev with
 | nil => intro l n hn; simp [cI]
 | cons m r ih =>
  intro l n hn
  show (cI (l.set m _) r).getD n 0 = _
  rw [ih _ n (by simpa using hn)]
  by_cases hr : n ∈ r
  ·rw [if_pos hr, if_pos (by simp [hr])]
  ·rw [if_neg hr]
   by_cases e : m = n
   ·subst e
    rw [fA hn, if_pos rfl, if_pos (by simp)]
   ·rw [if_neg (by simp [hr]; omega)]
    by_cases hm : m < l.length
    ·rw [fA hm, if_neg e]
    ·rw [List.set_eq_of_length_le (by omega)]
section
variable {c : Ci} {s : Ns} {w : Nat → Bool}
theorem FE (hc : bX c) {p n : Nat} (hp : p < c.procs.length) {f : Fi} {k : Nat} (hk : k ≤ (bx c p).takes.length) (h : n ∈ sJ (bx c p) f k) : n < c.chans.length ∧ (eI c n).dst = p := by
 obtain ⟨j, h1, h2, rfl⟩ := qy h
 obtain ⟨k1, k2, k3, k4⟩ := hc.tk p hp j (by omega)
 exact ⟨by show (lY (bx c p) j).chan.toNat < _; omega, k4⟩
theorem zO (hc : bX c) {p : Nat} {e : Nat × Int} (hp : p < c.procs.length) {f : Fi} {k : Nat} (hk : k ≤ (bx c p).puts.length) (h : e ∈ sK (bx c p) f k) : e.1 < c.chans.length ∧ (eI c e.1).frm = p := by
 obtain ⟨j, h1, h2, h3, h4⟩ := n9 h
 obtain ⟨k1, k2, k3, k4⟩ := hc.pt p hp j (by omega)
 rw [← h3]
 exact ⟨by show (pu (bx c p) j).chan.toNat < _; omega, k4⟩
theorem py (hc : bX c) {p : Nat} (n : Nat) (hp : p < c.procs.length) {f : Fi} : ∀ {k : Nat}, k ≤ (bx c p).takes.length → (sJ (bx c p) f k).count n = if n ∈ sJ (bx c p) f k then 1 else 0
 | 0, _ => by simp [sJ]
 | k + 1, hk => by
  have ih := py hc n hp (f := f) (k := k) (by omega)
  rw [sJ, List.count_append, ih]
  by_cases h1 : f.pops.getD k false = true
  ·rw [if_pos h1]
   by_cases e : tV (bx c p) k = n
   ·have : n ∉ sJ (bx c p) f k := by
     intro hm
     obtain ⟨j, g1, g2, g3⟩ := qy hm
     have := hc.td p hp j k (by omega) (by omega) (by rw [g3, e])
     omega
    rw [if_neg this, e, List.count_singleton_self, if_pos (List.mem_append_right _ (List.mem_singleton.2 rfl))]
   ·have e3 : ([tV (bx c p) k]).count n = 0 := List.count_eq_zero.2 (by rw [List.mem_singleton]; exact fun h => e h.symm)
    rw [e3, Nat.add_zero]
    by_cases hm : n ∈ sJ (bx c p) f k
    ·rw [if_pos hm, if_pos (List.mem_append_left _ hm)]
    ·rw [if_neg hm, if_neg]
     intro h
     rcases List.mem_append.1 h with h | h
     ·exact hm h
     ·exact e (List.mem_singleton.1 h).symm
  ·rw [if_neg h1, List.append_nil]; rfl
theorem rQ (hc : bX c) (n : Nat) : ∀ {P : Nat}, P ≤ c.procs.length → (px c s w P).count n = if qf c n < P then ic c s w n else 0
 | 0, _ => by simp [px]
 | P + 1, hP => by
  have ih := rQ hc n (P := P) (by omega)
  rw [px, List.count_append, ih]
  by_cases hd : qf c n = P
  ·rw [if_neg (show ¬qf c n < P by omega), if_pos (show qf c n < P + 1 by omega), ic, hd, Nat.zero_add]
   by_cases hf : bq c s w P = true
   ·rw [if_pos hf, py hc n (by omega) (Nat.le_refl _)]
    simp [jK, hf]
   ·rw [if_neg hf]; simp [hf]
  ·have h0 : (if bq c s w P = true then sJ (bx c P) (ay c s P) (bx c P).takes.length else []).count n = 0 := by
    split
    ·rw [py hc n (by omega) (Nat.le_refl _), if_neg]
     intro hm
     have := (FE hc (by omega) (Nat.le_refl _) hm).2
     exact hd (by rw [qf, this]; rfl)
    ·rfl
   rw [h0]
   by_cases h1 : qf c n < P
   ·rw [if_pos h1, if_pos (show qf c n < P + 1 by omega)]; rfl
   ·rw [if_neg h1, if_neg (show ¬qf c n < P + 1 by omega)]
theorem Dg (hc : bX c) {p n : Nat} (h : jK c s p n = true) : p < c.procs.length := by
 by_cases hp : p < c.procs.length
 ·exact hp
 ·unfold jK at h
  have e : bx c p = af := by rw [bx, List.getD, List.getElem?_eq_none (by omega)]; rfl
  rw [e] at h
  simp [sJ] at h
theorem FF (hc : bX c) (n : Nat) : (if qf c n < c.procs.length then ic c s w n else 0) = ic c s w n := by
 split
 ·rfl
 ·rename_i h
  rw [ic, if_neg]
  rintro ⟨_, h2⟩
  exact h (Dg hc h2)
theorem FG (hc : bX c) {p n : Nat} (hp : p < c.procs.length) (hd : ¬lZ c n = p) (f : Fi) : (sK (bx c p) f (bx c p).puts.length).filter (fun e => e.1 == n) = [] := by
 rw [List.filter_eq_nil_iff]
 intro e he h
 have h1 : e.1 = n := by simpa using h
 have := (zO hc hp (Nat.le_refl _) he).2
 rw [h1] at this
 exact hd (by rw [lZ, this]; rfl)
theorem rR (hc : bX c) (n : Nat) : ∀ {P : Nat}, P ≤ c.procs.length → ((mV c s w P).filter (fun e => e.1 == n)).map (·.2) = if lZ c n < P then gi c s w n else []
 | 0, _ => by simp [mV]
 | P + 1, hP => by
  have ih := rR hc n (P := P) (by omega)
  rw [mV, List.filter_append, List.map_append, ih]
  by_cases hd : lZ c n = P
  ·rw [if_neg (show ¬lZ c n < P by omega), if_pos (show lZ c n < P + 1 by omega), gi, hd]
   by_cases hf : bq c s w P = true
   ·rw [if_pos hf, if_pos hf]; rfl
   ·rw [if_neg hf, if_neg hf]; rfl
  ·have h0 : (if bq c s w P = true then sK (bx c P) (ay c s P) (bx c P).puts.length else []).filter (fun e => e.1 == n) = [] := by
    split
    ·exact FG hc (by omega) hd _
    ·rfl
   rw [h0]
   by_cases h1 : lZ c n < P
   ·rw [if_pos h1, if_pos (show lZ c n < P + 1 by omega)]; exact List.append_nil _
   ·rw [if_neg h1, if_neg (show ¬lZ c n < P + 1 by omega)]; rfl
theorem oa {p n : Nat} (hp : ¬p < c.procs.length) : vk c s p n = [] := by
 have e : bx c p = af := by rw [bx, List.getD, List.getElem?_eq_none (by omega)]; rfl
 unfold vk
 rw [e]; rfl
theorem zP (n : Nat) : (if lZ c n < c.procs.length then gi c s w n else []) = gi c s w n := by
 split
 ·rfl
 ·rename_i h
  rw [gi]
  split
  ·rw [oa h]
  ·rfl
end
end Go.Proofs.Ytnlmlkbaflmgcaa
