/-
  Circuits, plain data: what firing does, channel by channel.
-/
import Derived.Test.YtnlmlkbaflmgcaaQNeA
namespace Go.Proofs.Ytnlmlkbaflmgcaa
open Go.RowKit
set_option linter.unusedVariables false
set_option linter.unusedSimpArgs false
structure Ch where
 name : ByteArray
 w : Int
 cap : Int
 frm : Int
 dst : Int
abbrev aB : Ch := ⟨e0, 0, 0, 0, 0⟩
structure Ci where
 procs : List Pr
 chans : List Ch
structure Ns where
 procs : List Ps
 chans : List (List Int)
def bI (c : Ch) : List V := [.str c.name, .int .i64 c.w, .int .i64 c.cap, .int .i64 c.frm, .int .i64 c.dst]
abbrev KC : Ci := ⟨[], []⟩
abbrev aZ (c : Ci) (i : Nat) : Pr := c.procs.getD i ac
abbrev d9 (c : Ci) (n : Nat) : Ch := c.chans.getD n aB
abbrev xZ (s : Ns) (i : Nat) : Ps := s.procs.getD i aW
abbrev jL (s : Ns) (n : Nat) : List Int := s.chans.getD n []
abbrev ue (p : Pr) (j : Nat) : Nat := (mi p j).chan.toNat
abbrev qI (p : Pr) (j : Nat) : Nat := (pC p j).chan.toNat
structure bS (c : Ci) : Prop where
 n1 : 1 ≤ c.procs.length
 nl : c.procs.length ≤ 100
 cl : c.chans.length ≤ 100
 pr : ∀ i, i < c.procs.length → gi (aZ c i)
 tk : ∀ i, i < c.procs.length → ∀ j, j < (aZ c i).takes.length → 0 ≤ (mi (aZ c i) j).chan ∧ (mi (aZ c i) j).chan < c.chans.length ∧ (d9 c (ue (aZ c i) j)).w = (mi (aZ c i) j).w ∧ (d9 c (ue (aZ c i) j)).dst = i
 pt : ∀ i, i < c.procs.length → ∀ j, j < (aZ c i).puts.length → 0 ≤ (pC (aZ c i) j).chan ∧ (pC (aZ c i) j).chan < c.chans.length ∧ (d9 c (qI (aZ c i) j)).w = (pC (aZ c i) j).w ∧ (d9 c (qI (aZ c i) j)).frm = i
 td : ∀ i, i < c.procs.length → ∀ j k, j < (aZ c i).takes.length → k < (aZ c i).takes.length → ue (aZ c i) j = ue (aZ c i) k → j = k
 pd : ∀ i, i < c.procs.length → ∀ j k, j < (aZ c i).puts.length → k < (aZ c i).puts.length → qI (aZ c i) j = qI (aZ c i) k → j = k
 cw : ∀ n, n < c.chans.length → aI (d9 c n).w = true
 cp : ∀ n, n < c.chans.length → 0 ≤ (d9 c n).cap
def fk (l : List Int) (w : Int) : Bool := b4 (fun i => eV (l.getD i 0) w) l.length
def ib (c : Ci) (s : Ns) (n : Nat) : Bool := fk (jL s n) (d9 c n).w && (!(decide (0 ≤ (d9 c n).frm) && decide (0 ≤ (d9 c n).dst)) || decide (((jL s n).length : Int) ≤ (d9 c n).cap))
def bX (c : Ci) (s : Ns) : Bool := decide (s.procs.length = c.procs.length) && decide (s.chans.length = c.chans.length) && b4 (fun i => bx (aZ c i) (xZ s i)) c.procs.length && b4 (ib c s) c.chans.length
structure er (c : Ci) (s : Ns) : Prop where
 pl : s.procs.length = c.procs.length
 cl : s.chans.length = c.chans.length
 pv : ∀ i, i < c.procs.length → kQ (aZ c i) (xZ s i)
 cv : ∀ n, n < c.chans.length → ∀ i, i < (jL s n).length → cg ((jL s n).getD i 0) (d9 c n).w
 cc : ∀ n, n < c.chans.length → 0 ≤ (d9 c n).frm → 0 ≤ (d9 c n).dst → ((jL s n).length : Int) ≤ (d9 c n).cap
theorem DB {l : List Int} {w : Int} : fk l w = true ↔ ∀ i, i < l.length → cg (l.getD i 0) w := by
 unfold fk
 simp only [aR, w4]
theorem yK {c : Ci} {s : Ns} : bX c s = true ↔ er c s := by
 unfold bX ib
 simp only [Bool.and_eq_true, decide_eq_true_eq, aR, BP, DB, Bool.or_eq_true, Bool.not_eq_true', Bool.and_eq_false_iff, decide_eq_false_iff_not]
 constructor
 ·rintro ⟨⟨⟨h1, h2⟩, h3⟩, h4⟩
  refine ⟨h1, h2, h3, fun n hn => (h4 n hn).1, fun n hn ha hb => ?_⟩
  rcases (h4 n hn).2 with (h | h) | h
  ·exact absurd ha h
  ·exact absurd hb h
  ·exact h
 ·intro h
  refine ⟨⟨⟨h.pl, h.cl⟩, h.pv⟩, fun n hn => ⟨h.cv n hn, ?_⟩⟩
  by_cases ha : 0 ≤ (d9 c n).frm
  ·by_cases hb : 0 ≤ (d9 c n).dst
   ·exact .inr (h.cc n hn ha hb)
   ·exact .inl (.inr hb)
  ·exact .inl (.inl ha)
def ic (c : Ci) (s : Ns) (p j : Nat) : Hd := if 0 < (jL s (ue (aZ c p) j)).length then ⟨true, (jL s (ue (aZ c p) j)).getD 0 0⟩ else cC
def cE (c : Ci) (s : Ns) (p : Nat) : List Hd := tab (ic c s p) (aZ c p).takes.length
def fY (c : Ci) (s : Ns) (p j : Nat) : Bool := decide ((d9 c (qI (aZ c p) j)).dst = -1) || decide (((jL s (qI (aZ c p) j)).length : Int) < (d9 c (qI (aZ c p) j)).cap)
def cK (c : Ci) (s : Ns) (p : Nat) : List Bool := tab (fY c s p) (aZ c p).puts.length
def az (c : Ci) (s : Ns) (p : Nat) : Fi := bk (aZ c p) (xZ s p) (cE c s p) (cK c s p)
def w5 (c : Ci) (s : Ns) (p : Nat) : Bool := (az c s p).fires
def ie (c : Ci) (s : Ns) (p : Int) : Bool := decide (0 ≤ p) && (decide (p < c.procs.length) && w5 c s p.toNat)
theorem DC (c : Ci) (s : Ns) (p : Nat) : w5 c s p = hX (aZ c p) (xZ s p) (cE c s p) (cK c s p) := yJ _ _ _ _
theorem se {c : Ci} {s : Ns} (hc : bS c) (hs : er c s) {p : Nat} (hp : p < c.procs.length) : BO (aZ c p) (cE c s p) where
 l := by rw [cE, aJ]
 v := fun i hi hh => by
  rw [cE, aL hi] at hh ⊢
  unfold ic at hh ⊢
  split
  ·rename_i h0
   obtain ⟨k1, k2, k3, k4⟩ := hc.tk p hp i hi
   have := hs.cv (ue (aZ c p) i) (by show (mi (aZ c p) i).chan.toNat < _; omega) 0 h0
   rw [k3] at this
   exact this
  ·rename_i h0; rw [if_neg h0] at hh; cases hh
def sW (p : Pr) (f : Fi) : Nat → List Nat
 | 0 => []
 | k + 1 => sW p f k ++ (if f.pops.getD k false = true then [ue p k] else [])
def sX (p : Pr) (f : Fi) : Nat → List (Nat × Int)
 | 0 => []
 | k + 1 => sX p f k ++ (if (f.puts.getD k cC).has = true then [(qI p k, (f.puts.getD k cC).v)] else [])
def br (c : Ci) (s : Ns) (w : Nat → Bool) (p : Nat) : Bool := w p && w5 c s p
def pD (c : Ci) (s : Ns) (w : Nat → Bool) : Nat → List Nat
 | 0 => []
 | p + 1 => pD c s w p ++ (if br c s w p = true then sW (aZ c p) (az c s p) (aZ c p).takes.length else [])
def ng (c : Ci) (s : Ns) (w : Nat → Bool) : Nat → List (Nat × Int)
 | 0 => []
 | p + 1 => ng c s w p ++ (if br c s w p = true then sX (aZ c p) (az c s p) (aZ c p).puts.length else [])
def cH (l : List Int) (ev : List Nat) : List Int := ev.foldl (fun l n => l.set n 1) l
def cA (l : List (Option Int)) (ev : List (Nat × Int)) : List (Option Int) := ev.foldl (fun l e => l.set e.1 (some e.2)) l
def jM (c : Ci) (s : Ns) (p n : Nat) : Bool := decide (n ∈ sW (aZ c p) (az c s p) (aZ c p).takes.length)
def vD (c : Ci) (s : Ns) (p n : Nat) : List Int := ((sX (aZ c p) (az c s p) (aZ c p).puts.length).filter (fun e => e.1 == n)).map (·.2)
def qp (c : Ci) (n : Nat) : Nat := (d9 c n).dst.toNat
def mj (c : Ci) (n : Nat) : Nat := (d9 c n).frm.toNat
def ig (c : Ci) (s : Ns) (w : Nat → Bool) (n : Nat) : Nat := if br c s w (qp c n) = true ∧ jM c s (qp c n) n = true then 1 else 0
def gr (c : Ci) (s : Ns) (w : Nat → Bool) (n : Nat) : List Int := if br c s w (mj c n) = true then vD c s (mj c n) n else []
def ii (c : Ci) (s : Ns) (w : Nat → Bool) (n : Nat) : List Int := (jL s n).drop (ig c s w n) ++ gr c s w n
def cL (c : Ci) (s : Ns) (w : Nat → Bool) (p : Nat) : Ps := if br c s w p = true then (az c s p).s else xZ s p
def cF (c : Ci) (s : Ns) (w : Nat → Bool) : Ns := ⟨tab (cL c s w) c.procs.length, tab (ii c s w) c.chans.length⟩
theorem qJ {p : Pr} {f : Fi} {n : Nat} : ∀ {k : Nat}, n ∈ sW p f k → ∃ j, j < k ∧ f.pops.getD j false = true ∧ ue p j = n
 | 0, h => by cases h
 | k + 1, h => by
  rw [sW, List.mem_append] at h
  rcases h with h | h
  ·obtain ⟨j, h1, h2⟩ := qJ h; exact ⟨j, by omega, h2⟩
  ·split at h
   ·rename_i hh; simp only [List.mem_singleton] at h; exact ⟨k, by omega, hh, h.symm⟩
   ·cases h
theorem oi {p : Pr} {f : Fi} {e : Nat × Int} : ∀ {k : Nat}, e ∈ sX p f k → ∃ j, j < k ∧ (f.puts.getD j cC).has = true ∧ qI p j = e.1 ∧ (f.puts.getD j cC).v = e.2
 | 0, h => by cases h
 | k + 1, h => by
  rw [sX, List.mem_append] at h
  rcases h with h | h
  ·obtain ⟨j, h1, h2⟩ := oi h; exact ⟨j, by omega, h2⟩
  ·split at h
   ·rename_i hh; simp only [List.mem_singleton] at h; subst h; exact ⟨k, by omega, hh, rfl, rfl⟩
   ·cases h
theorem qa (ev : List Nat) : ∀ (l : List Int), (cH l ev).length = l.length := by
 induction ev with
 | nil => intro l; rfl
 | cons n r ih => intro l; show (cH _ r).length = _; rw [ih]; simp
theorem qb (ev : List (Nat × Int)) : ∀ (l : List (Option Int)), (cA l ev).length = l.length := by
 induction ev with
 | nil => intro l; rfl
 | cons n r ih => intro l; show (cA _ r).length = _; rw [ih]; simp
theorem vE (l : List Int) (ev : List Nat) (n : Nat) : cH l (ev ++ [n]) = (cH l ev).set n 1 := by simp [cH, List.foldl_append]
theorem vG (l : List (Option Int)) (ev : List (Nat × Int)) (n : Nat) (v : Int) : cA l (ev ++ [(n, v)]) = (cA l ev).set n (some v) := by simp [cA, List.foldl_append]
theorem w7 (ev : List Nat) : ∀ (l : List Int) (n : Nat), n < l.length → (cH l ev).getD n 0 = if n ∈ ev then 1 else l.getD n 0 := by
 induction ev with
 | nil => intro l n hn; simp [cH]
 | cons m r ih =>
  intro l n hn
  show (cH (l.set m _) r).getD n 0 = _
  rw [ih _ n (by simpa using hn)]
  by_cases hr : n ∈ r
  ·rw [if_pos hr, if_pos (by simp [hr])]
  ·rw [if_neg hr]
   by_cases e : m = n
   ·subst e
    rw [fF hn, if_pos rfl, if_pos (by simp)]
   ·rw [if_neg (by simp [hr]; omega)]
    by_cases hm : m < l.length
    ·rw [fF hm, if_neg e]
    ·rw [List.set_eq_of_length_le (by omega)]
section
variable {c : Ci} {s : Ns} {w : Nat → Bool}
theorem FP (hc : bS c) {p n : Nat} (hp : p < c.procs.length) {f : Fi} {k : Nat} (hk : k ≤ (aZ c p).takes.length) (h : n ∈ sW (aZ c p) f k) : n < c.chans.length ∧ (d9 c n).dst = p := by
 obtain ⟨j, h1, h2, rfl⟩ := qJ h
 obtain ⟨k1, k2, k3, k4⟩ := hc.tk p hp j (by omega)
 exact ⟨by show (mi (aZ c p) j).chan.toNat < _; omega, k4⟩
theorem Af (hc : bS c) {p : Nat} {e : Nat × Int} (hp : p < c.procs.length) {f : Fi} {k : Nat} (hk : k ≤ (aZ c p).puts.length) (h : e ∈ sX (aZ c p) f k) : e.1 < c.chans.length ∧ (d9 c e.1).frm = p := by
 obtain ⟨j, h1, h2, h3, h4⟩ := oi h
 obtain ⟨k1, k2, k3, k4⟩ := hc.pt p hp j (by omega)
 rw [← h3]
 exact ⟨by show (pC (aZ c p) j).chan.toNat < _; omega, k4⟩
theorem pE (hc : bS c) {p : Nat} (n : Nat) (hp : p < c.procs.length) {f : Fi} : ∀ {k : Nat}, k ≤ (aZ c p).takes.length → (sW (aZ c p) f k).count n = if n ∈ sW (aZ c p) f k then 1 else 0
 | 0, _ => by simp [sW]
 | k + 1, hk => by
  have ih := pE hc n hp (f := f) (k := k) (by omega)
  rw [sW, List.count_append, ih]
  by_cases h1 : f.pops.getD k false = true
  ·rw [if_pos h1]
   by_cases e : ue (aZ c p) k = n
   ·have : n ∉ sW (aZ c p) f k := by
     intro hm
     obtain ⟨j, g1, g2, g3⟩ := qJ hm
     have := hc.td p hp j k (by omega) (by omega) (by rw [g3, e])
     omega
    rw [if_neg this, e, List.count_singleton_self, if_pos (List.mem_append_right _ (List.mem_singleton.2 rfl))]
   ·have e3 : ([ue (aZ c p) k]).count n = 0 := List.count_eq_zero.2 (by rw [List.mem_singleton]; exact fun h => e h.symm)
    rw [e3, Nat.add_zero]
    by_cases hm : n ∈ sW (aZ c p) f k
    ·rw [if_pos hm, if_pos (List.mem_append_left _ hm)]
    ·rw [if_neg hm, if_neg]
     intro h
     rcases List.mem_append.1 h with h | h
     ·exact hm h
     ·exact e (List.mem_singleton.1 h).symm
  ·rw [if_neg h1, List.append_nil]; rfl
theorem sf (hc : bS c) (n : Nat) : ∀ {P : Nat}, P ≤ c.procs.length → (pD c s w P).count n = if qp c n < P then ig c s w n else 0
 | 0, _ => by simp [pD]
 | P + 1, hP => by
  have ih := sf hc n (P := P) (by omega)
  rw [pD, List.count_append, ih]
  by_cases hd : qp c n = P
  ·rw [if_neg (show ¬qp c n < P by omega), if_pos (show qp c n < P + 1 by omega), ig, hd, Nat.zero_add]
   by_cases hf : br c s w P = true
   ·rw [if_pos hf, pE hc n (by omega) (Nat.le_refl _)]
    simp [jM, hf]
   ·rw [if_neg hf]; simp [hf]
  ·have h0 : (if br c s w P = true then sW (aZ c P) (az c s P) (aZ c P).takes.length else []).count n = 0 := by
    split
    ·rw [pE hc n (by omega) (Nat.le_refl _), if_neg]
     intro hm
     have := (FP hc (by omega) (Nat.le_refl _) hm).2
     exact hd (by rw [qp, this]; rfl)
    ·rfl
   rw [h0]
   by_cases h1 : qp c n < P
   ·rw [if_pos h1, if_pos (show qp c n < P + 1 by omega)]; rfl
   ·rw [if_neg h1, if_neg (show ¬qp c n < P + 1 by omega)]
theorem DD (hc : bS c) {p n : Nat} (h : jM c s p n = true) : p < c.procs.length := by
 by_cases hp : p < c.procs.length
 ·exact hp
 ·unfold jM at h
  have e : aZ c p = ac := by rw [aZ, List.getD, List.getElem?_eq_none (by omega)]; rfl
  rw [e] at h
  simp [sW] at h
theorem FQ (hc : bS c) (n : Nat) : (if qp c n < c.procs.length then ig c s w n else 0) = ig c s w n := by
 split
 ·rfl
 ·rename_i h
  rw [ig, if_neg]
  rintro ⟨_, h2⟩
  exact h (DD hc h2)
theorem FR (hc : bS c) {p n : Nat} (hp : p < c.procs.length) (hd : ¬mj c n = p) (f : Fi) : (sX (aZ c p) f (aZ c p).puts.length).filter (fun e => e.1 == n) = [] := by
 rw [List.filter_eq_nil_iff]
 intro e he h
 have h1 : e.1 = n := by simpa using h
 have := (Af hc hp (Nat.le_refl _) he).2
 rw [h1] at this
 exact hd (by rw [mj, this]; rfl)
theorem sg (hc : bS c) (n : Nat) : ∀ {P : Nat}, P ≤ c.procs.length → ((ng c s w P).filter (fun e => e.1 == n)).map (·.2) = if mj c n < P then gr c s w n else []
 | 0, _ => by simp [ng]
 | P + 1, hP => by
  have ih := sg hc n (P := P) (by omega)
  rw [ng, List.filter_append, List.map_append, ih]
  by_cases hd : mj c n = P
  ·rw [if_neg (show ¬mj c n < P by omega), if_pos (show mj c n < P + 1 by omega), gr, hd]
   by_cases hf : br c s w P = true
   ·rw [if_pos hf, if_pos hf]; rfl
   ·rw [if_neg hf, if_neg hf]; rfl
  ·have h0 : (if br c s w P = true then sX (aZ c P) (az c s P) (aZ c P).puts.length else []).filter (fun e => e.1 == n) = [] := by
    split
    ·exact FR hc (by omega) hd _
    ·rfl
   rw [h0]
   by_cases h1 : mj c n < P
   ·rw [if_pos h1, if_pos (show mj c n < P + 1 by omega)]; exact List.append_nil _
   ·rw [if_neg h1, if_neg (show ¬mj c n < P + 1 by omega)]; rfl
theorem oo {p n : Nat} (hp : ¬p < c.procs.length) : vD c s p n = [] := by
 have e : aZ c p = ac := by rw [aZ, List.getD, List.getElem?_eq_none (by omega)]; rfl
 unfold vD
 rw [e]; rfl
theorem Ag (n : Nat) : (if mj c n < c.procs.length then gr c s w n else []) = gr c s w n := by
 split
 ·rfl
 ·rename_i h
  rw [gr]
  split
  ·rw [oo h]
  ·rfl
end
end Go.Proofs.Ytnlmlkbaflmgcaa
