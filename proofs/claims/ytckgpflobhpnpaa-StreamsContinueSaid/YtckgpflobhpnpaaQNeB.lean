/-
  Circuits, plain data: what firing does, channel by channel.
-/
import Derived.Test.YtckgpflobhpnpaaQNeA
namespace Go.Proofs.Ytckgpflobhpnpaa
open Go.RowKit
set_option linter.unusedVariables false
set_option linter.unusedSimpArgs false
structure Ch where
 name : ByteArray
 w : Int
 cap : Int
 frm : Int
 dst : Int
abbrev cb : Ch := ⟨e0, 0, 0, 0, 0⟩
structure Ci where
 procs : List Pr
 chans : List Ch
structure Ns where
 procs : List Ps
 chans : List (List Int)
def gM (c : Ch) : List V := [.str c.name, .int .i64 c.w, .int .i64 c.cap, .int .i64 c.frm, .int .i64 c.dst]
abbrev be (c : Ci) (i : Nat) : Pr := c.procs.getD i ac
abbrev eO (c : Ci) (n : Nat) : Ch := c.chans.getD n cb
abbrev AZ (s : Ns) (i : Nat) : Ps := s.procs.getD i bV
abbrev xN (s : Ns) (n : Nat) : List Int := s.chans.getD n []
abbrev mA (p : Pr) (j : Nat) : Nat := (lM p j).chan.toNat
abbrev vG (p : Pr) (j : Nat) : Nat := (sH p j).chan.toNat
structure a6 (c : Ci) : Prop where
 n1 : 1 ≤ c.procs.length
 nl : c.procs.length ≤ 100
 cl : c.chans.length ≤ 100
 pr : ∀ i, i < c.procs.length → gP (be c i)
 tk : ∀ i, i < c.procs.length → ∀ j, j < (be c i).takes.length → 0 ≤ (lM (be c i) j).chan ∧ (lM (be c i) j).chan < c.chans.length ∧ (eO c (mA (be c i) j)).w = (lM (be c i) j).w ∧ (eO c (mA (be c i) j)).dst = i
 pt : ∀ i, i < c.procs.length → ∀ j, j < (be c i).puts.length → 0 ≤ (sH (be c i) j).chan ∧ (sH (be c i) j).chan < c.chans.length ∧ (eO c (vG (be c i) j)).w = (sH (be c i) j).w ∧ (eO c (vG (be c i) j)).frm = i
 td : ∀ i, i < c.procs.length → ∀ j k, j < (be c i).takes.length → k < (be c i).takes.length → mA (be c i) j = mA (be c i) k → j = k
 pd : ∀ i, i < c.procs.length → ∀ j k, j < (be c i).puts.length → k < (be c i).puts.length → vG (be c i) j = vG (be c i) k → j = k
 cw : ∀ n, n < c.chans.length → ay (eO c n).w = true
 cp : ∀ n, n < c.chans.length → 0 ≤ (eO c n).cap
def zt (l : List Int) (w : Int) : Bool := dT (fun i => kL (l.getD i 0) w) l.length
structure jS (c : Ci) (s : Ns) : Prop where
 pl : s.procs.length = c.procs.length
 cl : s.chans.length = c.chans.length
 pv : ∀ i, i < c.procs.length → qF (be c i) (AZ s i)
 cv : ∀ n, n < c.chans.length → ∀ i, i < (xN s n).length → dt ((xN s n).getD i 0) (eO c n).w
 cc : ∀ n, n < c.chans.length → 0 ≤ (eO c n).frm → 0 ≤ (eO c n).dst → ((xN s n).length : Int) ≤ (eO c n).cap
theorem F0 {l : List Int} {w : Int} : zt l w = true ↔ ∀ i, i < l.length → dt (l.getD i 0) w := by
 unfold zt
 simp only [cH, FX]
def cJ (c : Ci) (s : Ns) (p j : Nat) : Hd := if 0 < (xN s (mA (be c p) j)).length then ⟨true, (xN s (mA (be c p) j)).getD 0 0⟩ else aP
def ge (c : Ci) (s : Ns) (p : Nat) : List Hd := tab (cJ c s p) (be c p).takes.length
def cQ (c : Ci) (s : Ns) (p j : Nat) : Bool := decide ((eO c (vG (be c p) j)).dst = -1) || decide (((xN s (vG (be c p) j)).length : Int) < (eO c (vG (be c p) j)).cap)
def uW (c : Ci) (s : Ns) (p : Nat) : List Bool := tab (cQ c s p) (be c p).puts.length
def af (c : Ci) (s : Ns) (p : Nat) : Fi := aL (be c p) (AZ s p) (ge c s p) (uW c s p)
def gf (c : Ci) (s : Ns) (p : Nat) : Bool := (af c s p).fires
theorem rX (c : Ci) (s : Ns) (p : Nat) : gf c s p = fo (be c p) (AZ s p) (ge c s p) (uW c s p) := kM _ _ _ _
theorem qN {c : Ci} {s : Ns} (hc : a6 c) (hs : jS c s) {p : Nat} (hp : p < c.procs.length) : AU (be c p) (ge c s p) where
 l := by rw [ge, ap]
 v := fun i hi hh => by
  rw [ge, aB hi] at hh ⊢
  unfold cJ at hh ⊢
  split
  ·rename_i h0
   obtain ⟨k1, k2, k3, k4⟩ := hc.tk p hp i hi
   have := hs.cv (mA (be c p) i) (by show (lM (be c p) i).chan.toNat < _; omega) 0 h0
   rw [k3] at this
   exact this
  ·rename_i h0; rw [if_neg h0] at hh; cases hh
def lN (p : Pr) (f : Fi) : Nat → List Nat
 | 0 => []
 | k + 1 => lN p f k ++ (if f.pops.getD k false = true then [mA p k] else [])
def ny (p : Pr) (f : Fi) : Nat → List (Nat × Int)
 | 0 => []
 | k + 1 => ny p f k ++ (if (f.puts.getD k aP).has = true then [(vG p k, (f.puts.getD k aP).v)] else [])
def aA (c : Ci) (s : Ns) (w : Nat → Bool) (p : Nat) : Bool := w p && gf c s p
def iH (c : Ci) (s : Ns) (w : Nat → Bool) : Nat → List Nat
 | 0 => []
 | p + 1 => iH c s w p ++ (if aA c s w p = true then lN (be c p) (af c s p) (be c p).takes.length else [])
def oC (c : Ci) (s : Ns) (w : Nat → Bool) : Nat → List (Nat × Int)
 | 0 => []
 | p + 1 => oC c s w p ++ (if aA c s w p = true then ny (be c p) (af c s p) (be c p).puts.length else [])
def bp (l : List (List Int)) (ev : List Nat) : List (List Int) := ev.foldl (fun l n => l.set n ((l.getD n []).drop 1)) l
def bG (l : List (List Int)) (ev : List (Nat × Int)) : List (List Int) := ev.foldl (fun l e => l.set e.1 (l.getD e.1 [] ++ [e.2])) l
def eu (c : Ci) (s : Ns) (p n : Nat) : Bool := decide (n ∈ lN (be c p) (af c s p) (be c p).takes.length)
def s4 (c : Ci) (s : Ns) (p n : Nat) : List Int := ((ny (be c p) (af c s p) (be c p).puts.length).filter (fun e => e.1 == n)).map (·.2)
def gQ (c : Ci) (n : Nat) : Nat := (eO c n).dst.toNat
def eP (c : Ci) (n : Nat) : Nat := (eO c n).frm.toNat
def dU (c : Ci) (s : Ns) (w : Nat → Bool) (n : Nat) : Nat := if aA c s w (gQ c n) = true ∧ eu c s (gQ c n) n = true then 1 else 0
def cL (c : Ci) (s : Ns) (w : Nat → Bool) (n : Nat) : List Int := if aA c s w (eP c n) = true then s4 c s (eP c n) n else []
def dV (c : Ci) (s : Ns) (w : Nat → Bool) (n : Nat) : List Int := (xN s n).drop (dU c s w n) ++ cL c s w n
def cM (c : Ci) (s : Ns) (w : Nat → Bool) (p : Nat) : Ps := if aA c s w p = true then (af c s p).s else AZ s p
def bz (c : Ci) (s : Ns) (w : Nat → Bool) : Ns := ⟨tab (cM c s w) c.procs.length, tab (dV c s w) c.chans.length⟩
theorem nz {p : Pr} {f : Fi} {n : Nat} : ∀ {k : Nat}, n ∈ lN p f k → ∃ j, j < k ∧ f.pops.getD j false = true ∧ mA p j = n
 | 0, h => by cases h
 | k + 1, h => by
  rw [lN, List.mem_append] at h
  rcases h with h | h
  ·obtain ⟨j, h1, h2⟩ := nz h; exact ⟨j, by omega, h2⟩
  ·split at h
   ·rename_i hh; simp only [List.mem_singleton] at h; exact ⟨k, by omega, hh, h.symm⟩
   ·cases h
theorem qO {p : Pr} {f : Fi} {e : Nat × Int} : ∀ {k : Nat}, e ∈ ny p f k → ∃ j, j < k ∧ (f.puts.getD j aP).has = true ∧ vG p j = e.1 ∧ (f.puts.getD j aP).v = e.2
 | 0, h => by cases h
 | k + 1, h => by
  rw [ny, List.mem_append] at h
  rcases h with h | h
  ·obtain ⟨j, h1, h2⟩ := qO h; exact ⟨j, by omega, h2⟩
  ·split at h
   ·rename_i hh; simp only [List.mem_singleton] at h; subst h; exact ⟨k, by omega, hh, rfl, rfl⟩
   ·cases h
theorem dW (ev : List Nat) : ∀ (l : List (List Int)), (bp l ev).length = l.length := by
 induction ev with
 | nil => intro l; rfl
 | cons n r ih => intro l; show (bp _ r).length = _; rw [ih]; simp
theorem dg (ev : List (Nat × Int)) : ∀ (l : List (List Int)), (bG l ev).length = l.length := by
 induction ev with
 | nil => intro l; rfl
 | cons n r ih => intro l; show (bG _ r).length = _; rw [ih]; simp
theorem xO (l : List (List Int)) (ev : List Nat) (n : Nat) : bp l (ev ++ [n]) = (bp l ev).set n (((bp l ev).getD n []).drop 1) := by simp [bp, List.foldl_append]
theorem kP (l : List (List Int)) (ev : List (Nat × Int)) (n : Nat) (v : Int) : bG l (ev ++ [(n, v)]) = (bG l ev).set n ((bG l ev).getD n [] ++ [v]) := by simp [bG, List.foldl_append]
theorem mB (ev : List Nat) : ∀ (l : List (List Int)) (n : Nat), n < l.length → (bp l ev).getD n [] = (l.getD n []).drop (ev.count n) := by
 induction ev with
 | nil => intro l n hn; simp [bp]
 | cons m r ih =>
  intro l n hn
  show (bp (l.set m _) r).getD n [] = _
  rw [ih _ n (by simpa using hn), List.count_cons]
  by_cases e : m = n
  ·subst e
   rw [cZ hn, if_pos rfl, List.drop_drop]
   simp [Nat.add_comm]
  ·by_cases hm : m < l.length
   ·rw [cZ hm, if_neg e]; simp [e]
   ·rw [List.set_eq_of_length_le (by omega)]; simp [e]
theorem mC (ev : List (Nat × Int)) : ∀ (l : List (List Int)) (n : Nat), n < l.length → (bG l ev).getD n [] = l.getD n [] ++ (ev.filter (fun e => e.1 == n)).map (·.2) := by
 induction ev with
 | nil => intro l n hn; simp [bG]
 | cons m r ih =>
  intro l n hn
  show (bG (l.set m.1 _) r).getD n [] = _
  rw [ih _ n (by simpa using hn)]
  by_cases e : m.1 = n
  ·subst e
   rw [cZ hn, if_pos rfl]
   simp
  ·by_cases hm : m.1 < l.length
   ·rw [cZ hm, if_neg e]; simp [e]
   ·rw [List.set_eq_of_length_le (by omega)]; simp [e]
section
variable {c : Ci} {s : Ns} {w : Nat → Bool}
theorem tA (hc : a6 c) {p n : Nat} (hp : p < c.procs.length) {f : Fi} {k : Nat} (hk : k ≤ (be c p).takes.length) (h : n ∈ lN (be c p) f k) : n < c.chans.length ∧ (eO c n).dst = p := by
 obtain ⟨j, h1, h2, rfl⟩ := nz h
 obtain ⟨k1, k2, k3, k4⟩ := hc.tk p hp j (by omega)
 exact ⟨by show (lM (be c p) j).chan.toNat < _; omega, k4⟩
theorem CH (hc : a6 c) {p : Nat} {e : Nat × Int} (hp : p < c.procs.length) {f : Fi} {k : Nat} (hk : k ≤ (be c p).puts.length) (h : e ∈ ny (be c p) f k) : e.1 < c.chans.length ∧ (eO c e.1).frm = p := by
 obtain ⟨j, h1, h2, h3, h4⟩ := qO h
 obtain ⟨k1, k2, k3, k4⟩ := hc.pt p hp j (by omega)
 rw [← h3]
 exact ⟨by show (sH (be c p) j).chan.toNat < _; omega, k4⟩
theorem jT (hc : a6 c) {p : Nat} (n : Nat) (hp : p < c.procs.length) {f : Fi} : ∀ {k : Nat}, k ≤ (be c p).takes.length → (lN (be c p) f k).count n = if n ∈ lN (be c p) f k then 1 else 0
 | 0, _ => by simp [lN]
 | k + 1, hk => by
  have ih := jT hc n hp (f := f) (k := k) (by omega)
  rw [lN, List.count_append, ih]
  by_cases h1 : f.pops.getD k false = true
  ·rw [if_pos h1]
   by_cases e : mA (be c p) k = n
   ·have : n ∉ lN (be c p) f k := by
     intro hm
     obtain ⟨j, g1, g2, g3⟩ := nz hm
     have := hc.td p hp j k (by omega) (by omega) (by rw [g3, e])
     omega
    rw [if_neg this, e, List.count_singleton_self, if_pos (List.mem_append_right _ (List.mem_singleton.2 rfl))]
   ·have e3 : ([mA (be c p) k]).count n = 0 := List.count_eq_zero.2 (by rw [List.mem_singleton]; exact fun h => e h.symm)
    rw [e3, Nat.add_zero]
    by_cases hm : n ∈ lN (be c p) f k
    ·rw [if_pos hm, if_pos (List.mem_append_left _ hm)]
    ·rw [if_neg hm, if_neg]
     intro h
     rcases List.mem_append.1 h with h | h
     ·exact hm h
     ·exact e (List.mem_singleton.1 h).symm
  ·rw [if_neg h1, List.append_nil]; rfl
theorem zu {n : Nat} : ∀ {P : Nat}, n ∈ iH c s w P → ∃ p, p < P ∧ aA c s w p = true ∧ n ∈ lN (be c p) (af c s p) (be c p).takes.length
 | 0, h => by cases h
 | P + 1, h => by
  rw [iH, List.mem_append] at h
  rcases h with h | h
  ·obtain ⟨j, h1, h2⟩ := zu h; exact ⟨j, by omega, h2⟩
  ·split at h
   ·rename_i hh; exact ⟨P, by omega, hh, h⟩
   ·cases h
theorem uX (hc : a6 c) (n : Nat) : ∀ {P : Nat}, P ≤ c.procs.length → (iH c s w P).count n = if gQ c n < P then dU c s w n else 0
 | 0, _ => by simp [iH]
 | P + 1, hP => by
  have ih := uX hc n (P := P) (by omega)
  rw [iH, List.count_append, ih]
  by_cases hd : gQ c n = P
  ·rw [if_neg (show ¬gQ c n < P by omega), if_pos (show gQ c n < P + 1 by omega), dU, hd, Nat.zero_add]
   by_cases hf : aA c s w P = true
   ·rw [if_pos hf, jT hc n (by omega) (Nat.le_refl _)]
    simp [eu, hf]
   ·rw [if_neg hf]; simp [hf]
  ·have h0 : (if aA c s w P = true then lN (be c P) (af c s P) (be c P).takes.length else []).count n = 0 := by
    split
    ·rw [jT hc n (by omega) (Nat.le_refl _), if_neg]
     intro hm
     have := (tA hc (by omega) (Nat.le_refl _) hm).2
     exact hd (by rw [gQ, this]; rfl)
    ·rfl
   rw [h0]
   by_cases h1 : gQ c n < P
   ·rw [if_pos h1, if_pos (show gQ c n < P + 1 by omega)]; rfl
   ·rw [if_neg h1, if_neg (show ¬gQ c n < P + 1 by omega)]
theorem F1 (hc : a6 c) {p n : Nat} (h : eu c s p n = true) : p < c.procs.length := by
 by_cases hp : p < c.procs.length
 ·exact hp
 ·unfold eu at h
  have e : be c p = ac := by rw [be, List.getD, List.getElem?_eq_none (by omega)]; rfl
  rw [e] at h
  simp [lN] at h
theorem Ir (hc : a6 c) (n : Nat) : (if gQ c n < c.procs.length then dU c s w n else 0) = dU c s w n := by
 split
 ·rfl
 ·rename_i h
  rw [dU, if_neg]
  rintro ⟨_, h2⟩
  exact h (F1 hc h2)
theorem It (hc : a6 c) {p n : Nat} (hp : p < c.procs.length) (hd : ¬eP c n = p) (f : Fi) : (ny (be c p) f (be c p).puts.length).filter (fun e => e.1 == n) = [] := by
 rw [List.filter_eq_nil_iff]
 intro e he h
 have h1 : e.1 = n := by simpa using h
 have := (CH hc hp (Nat.le_refl _) he).2
 rw [h1] at this
 exact hd (by rw [eP, this]; rfl)
theorem zw (hc : a6 c) (n : Nat) : ∀ {P : Nat}, P ≤ c.procs.length → ((oC c s w P).filter (fun e => e.1 == n)).map (·.2) = if eP c n < P then cL c s w n else []
 | 0, _ => by simp [oC]
 | P + 1, hP => by
  have ih := zw hc n (P := P) (by omega)
  rw [oC, List.filter_append, List.map_append, ih]
  by_cases hd : eP c n = P
  ·rw [if_neg (show ¬eP c n < P by omega), if_pos (show eP c n < P + 1 by omega), cL, hd]
   by_cases hf : aA c s w P = true
   ·rw [if_pos hf, if_pos hf]; rfl
   ·rw [if_neg hf, if_neg hf]; rfl
  ·have h0 : (if aA c s w P = true then ny (be c P) (af c s P) (be c P).puts.length else []).filter (fun e => e.1 == n) = [] := by
    split
    ·exact It hc (by omega) hd _
    ·rfl
   rw [h0]
   by_cases h1 : eP c n < P
   ·rw [if_pos h1, if_pos (show eP c n < P + 1 by omega)]; exact List.append_nil _
   ·rw [if_neg h1, if_neg (show ¬eP c n < P + 1 by omega)]; rfl
theorem mD {p n : Nat} (hp : ¬p < c.procs.length) : s4 c s p n = [] := by
 have e : be c p = ac := by rw [be, List.getD, List.getElem?_eq_none (by omega)]; rfl
 unfold s4
 rw [e]; rfl
theorem Iu (n : Nat) : (if eP c n < c.procs.length then cL c s w n else []) = cL c s w n := by
 split
 ·rfl
 ·rename_i h
  rw [cL]
  split
  ·rw [mD h]
  ·rfl
theorem D8 (hc : a6 c) (hs : s.chans.length = c.chans.length) : bG (bp s.chans (iH c s w c.procs.length)) (oC c s w c.procs.length) = (bz c s w).chans := by
 refine dR (d := []) ?_ (fun n hn => ?_)
 ·rw [dg, dW, bz, ap, hs]
 ·rw [dg, dW] at hn
  rw [mC _ _ _ (by rw [dW]; exact hn), mB _ _ _ hn, uX hc n (Nat.le_refl _), zw hc n (Nat.le_refl _), Ir hc, Iu]
  show _ = (tab (dV c s w) c.chans.length).getD n []
  rw [aB (by omega)]
  rfl
end
end Go.Proofs.Ytckgpflobhpnpaa
