/-
  Circuits, plain data: what firing does, channel by channel.
-/
import Derived.Test.YtckgpflobhpnpaaGreatQNeA
namespace Go.Proofs.YtckgpflobhpnpaaGreat
open Go.RowKit
set_option linter.unusedVariables false
set_option linter.unusedSimpArgs false
structure Ch where
 name : ByteArray
 w : Int
 cap : Int
 frm : Int
 dst : Int
abbrev bk : Ch := ⟨e0, 0, 0, 0, 0⟩
structure Ci where
 procs : List Pr
 chans : List Ch
structure Ns where
 procs : List Ps
 chans : List (List Int)
def ee (c : Ch) : List V := [.str c.name, .int .i64 c.w, .int .i64 c.cap, .int .i64 c.frm, .int .i64 c.dst]
abbrev a8 (c : Ci) (i : Nat) : Pr := c.procs.getD i ab
abbrev cr (c : Ci) (n : Nat) : Ch := c.chans.getD n bk
abbrev xJ (s : Ns) (i : Nat) : Ps := s.procs.getD i bS
abbrev xK (s : Ns) (n : Nat) : List Int := s.chans.getD n []
abbrev jG (p : Pr) (j : Nat) : Nat := (lG p j).chan.toNat
abbrev tz (p : Pr) (j : Nat) : Nat := (sH p j).chan.toNat
structure aZ (c : Ci) : Prop where
 n1 : 1 ≤ c.procs.length
 nl : c.procs.length ≤ 100
 cl : c.chans.length ≤ 100
 pr : ∀ i, i < c.procs.length → gP (a8 c i)
 tk : ∀ i, i < c.procs.length → ∀ j, j < (a8 c i).takes.length → 0 ≤ (lG (a8 c i) j).chan ∧ (lG (a8 c i) j).chan < c.chans.length ∧ (cr c (jG (a8 c i) j)).w = (lG (a8 c i) j).w ∧ (cr c (jG (a8 c i) j)).dst = i
 pt : ∀ i, i < c.procs.length → ∀ j, j < (a8 c i).puts.length → 0 ≤ (sH (a8 c i) j).chan ∧ (sH (a8 c i) j).chan < c.chans.length ∧ (cr c (tz (a8 c i) j)).w = (sH (a8 c i) j).w ∧ (cr c (tz (a8 c i) j)).frm = i
 td : ∀ i, i < c.procs.length → ∀ j k, j < (a8 c i).takes.length → k < (a8 c i).takes.length → jG (a8 c i) j = jG (a8 c i) k → j = k
 pd : ∀ i, i < c.procs.length → ∀ j k, j < (a8 c i).puts.length → k < (a8 c i).puts.length → tz (a8 c i) j = tz (a8 c i) k → j = k
 cw : ∀ n, n < c.chans.length → av (cr c n).w = true
 cp : ∀ n, n < c.chans.length → 0 ≤ (cr c n).cap
def zm (l : List Int) (w : Int) : Bool := dR (fun i => kK (l.getD i 0) w) l.length
structure ja (c : Ci) (s : Ns) : Prop where
 pl : s.procs.length = c.procs.length
 cl : s.chans.length = c.chans.length
 pv : ∀ i, i < c.procs.length → qF (a8 c i) (xJ s i)
 cv : ∀ n, n < c.chans.length → ∀ i, i < (xK s n).length → dn ((xK s n).getD i 0) (cr c n).w
 cc : ∀ n, n < c.chans.length → 0 ≤ (cr c n).frm → 0 ≤ (cr c n).dst → ((xK s n).length : Int) ≤ (cr c n).cap
theorem FY {l : List Int} {w : Int} : zm l w = true ↔ ∀ i, i < l.length → dn (l.getD i 0) w := by
 unfold zm
 simp only [cH, FV]
def cA (c : Ci) (s : Ns) (p j : Nat) : Hd := if 0 < (xK s (jG (a8 c p) j)).length then ⟨true, (xK s (jG (a8 c p) j)).getD 0 0⟩ else aO
def en (c : Ci) (s : Ns) (p : Nat) : List Hd := tab (cA c s p) (a8 c p).takes.length
def cJ (c : Ci) (s : Ns) (p j : Nat) : Bool := decide ((cr c (tz (a8 c p) j)).dst = -1) || decide (((xK s (tz (a8 c p) j)).length : Int) < (cr c (tz (a8 c p) j)).cap)
def ms (c : Ci) (s : Ns) (p : Nat) : List Bool := tab (cJ c s p) (a8 c p).puts.length
def ae (c : Ci) (s : Ns) (p : Nat) : Fi := aI (a8 c p) (xJ s p) (en c s p) (ms c s p)
def fq (c : Ci) (s : Ns) (p : Nat) : Bool := (ae c s p).fires
theorem pH (c : Ci) (s : Ns) (p : Nat) : fq c s p = fp (a8 c p) (xJ s p) (en c s p) (ms c s p) := iJ _ _ _ _
theorem qN {c : Ci} {s : Ns} (hc : aZ c) (hs : ja c s) {p : Nat} (hp : p < c.procs.length) : AO (a8 c p) (en c s p) where
 l := by rw [en, ap]
 v := fun i hi hh => by
  rw [en, az hi] at hh ⊢
  unfold cA at hh ⊢
  split
  ·rename_i h0
   obtain ⟨k1, k2, k3, k4⟩ := hc.tk p hp i hi
   have := hs.cv (jG (a8 c p) i) (by show (lG (a8 c p) i).chan.toNat < _; omega) 0 h0
   rw [k3] at this
   exact this
  ·rename_i h0; rw [if_neg h0] at hh; cases hh
def lH (p : Pr) (f : Fi) : Nat → List Nat
 | 0 => []
 | k + 1 => lH p f k ++ (if f.pops.getD k false = true then [jG p k] else [])
def nr (p : Pr) (f : Fi) : Nat → List (Nat × Int)
 | 0 => []
 | k + 1 => nr p f k ++ (if (f.puts.getD k aO).has = true then [(tz p k, (f.puts.getD k aO).v)] else [])
def ay (c : Ci) (s : Ns) (w : Nat → Bool) (p : Nat) : Bool := w p && fq c s p
def iL (c : Ci) (s : Ns) (w : Nat → Bool) : Nat → List Nat
 | 0 => []
 | p + 1 => iL c s w p ++ (if ay c s w p = true then lH (a8 c p) (ae c s p) (a8 c p).takes.length else [])
def oz (c : Ci) (s : Ns) (w : Nat → Bool) : Nat → List (Nat × Int)
 | 0 => []
 | p + 1 => oz c s w p ++ (if ay c s w p = true then nr (a8 c p) (ae c s p) (a8 c p).puts.length else [])
def bp (l : List (List Int)) (ev : List Nat) : List (List Int) := ev.foldl (fun l n => l.set n ((l.getD n []).drop 1)) l
def bD (l : List (List Int)) (ev : List (Nat × Int)) : List (List Int) := ev.foldl (fun l e => l.set e.1 (l.getD e.1 [] ++ [e.2])) l
def eo (c : Ci) (s : Ns) (p n : Nat) : Bool := decide (n ∈ lH (a8 c p) (ae c s p) (a8 c p).takes.length)
def sY (c : Ci) (s : Ns) (p n : Nat) : List Int := ((nr (a8 c p) (ae c s p) (a8 c p).puts.length).filter (fun e => e.1 == n)).map (·.2)
def gQ (c : Ci) (n : Nat) : Nat := (cr c n).dst.toNat
def eO (c : Ci) (n : Nat) : Nat := (cr c n).frm.toNat
def dT (c : Ci) (s : Ns) (w : Nat → Bool) (n : Nat) : Nat := if ay c s w (gQ c n) = true ∧ eo c s (gQ c n) n = true then 1 else 0
def cL (c : Ci) (s : Ns) (w : Nat → Bool) (n : Nat) : List Int := if ay c s w (eO c n) = true then sY c s (eO c n) n else []
def dU (c : Ci) (s : Ns) (w : Nat → Bool) (n : Nat) : List Int := (xK s n).drop (dT c s w n) ++ cL c s w n
def cM (c : Ci) (s : Ns) (w : Nat → Bool) (p : Nat) : Ps := if ay c s w p = true then (ae c s p).s else xJ s p
def bv (c : Ci) (s : Ns) (w : Nat → Bool) : Ns := ⟨tab (cM c s w) c.procs.length, tab (dU c s w) c.chans.length⟩
theorem ns {p : Pr} {f : Fi} {n : Nat} : ∀ {k : Nat}, n ∈ lH p f k → ∃ j, j < k ∧ f.pops.getD j false = true ∧ jG p j = n
 | 0, h => by cases h
 | k + 1, h => by
  rw [lH, List.mem_append] at h
  rcases h with h | h
  ·obtain ⟨j, h1, h2⟩ := ns h; exact ⟨j, by omega, h2⟩
  ·split at h
   ·rename_i hh; simp only [List.mem_singleton] at h; exact ⟨k, by omega, hh, h.symm⟩
   ·cases h
theorem qO {p : Pr} {f : Fi} {e : Nat × Int} : ∀ {k : Nat}, e ∈ nr p f k → ∃ j, j < k ∧ (f.puts.getD j aO).has = true ∧ tz p j = e.1 ∧ (f.puts.getD j aO).v = e.2
 | 0, h => by cases h
 | k + 1, h => by
  rw [nr, List.mem_append] at h
  rcases h with h | h
  ·obtain ⟨j, h1, h2⟩ := qO h; exact ⟨j, by omega, h2⟩
  ·split at h
   ·rename_i hh; simp only [List.mem_singleton] at h; subst h; exact ⟨k, by omega, hh, rfl, rfl⟩
   ·cases h
theorem dV (ev : List Nat) : ∀ (l : List (List Int)), (bp l ev).length = l.length := by
 induction ev with
 | nil => intro l; rfl
 | cons n r ih => intro l; show (bp _ r).length = _; rw [ih]; simp
theorem de (ev : List (Nat × Int)) : ∀ (l : List (List Int)), (bD l ev).length = l.length := by
 induction ev with
 | nil => intro l; rfl
 | cons n r ih => intro l; show (bD _ r).length = _; rw [ih]; simp
theorem xL (l : List (List Int)) (ev : List Nat) (n : Nat) : bp l (ev ++ [n]) = (bp l ev).set n (((bp l ev).getD n []).drop 1) := by simp [bp, List.foldl_append]
theorem kN (l : List (List Int)) (ev : List (Nat × Int)) (n : Nat) (v : Int) : bD l (ev ++ [(n, v)]) = (bD l ev).set n ((bD l ev).getD n [] ++ [v]) := by simp [bD, List.foldl_append]
theorem mt (ev : List Nat) : ∀ (l : List (List Int)) (n : Nat), n < l.length → (bp l ev).getD n [] = (l.getD n []).drop (ev.count n) := by
 induction ev with
 | nil => intro l n hn; simp [bp]
 | cons m r ih =>
  intro l n hn
  show (bp (l.set m _) r).getD n [] = _
  rw [ih _ n (by simpa using hn), List.count_cons]
  by_cases e : m = n
  ·subst e
   rw [cX hn, if_pos rfl, List.drop_drop]
   simp [Nat.add_comm]
  ·by_cases hm : m < l.length
   ·rw [cX hm, if_neg e]; simp [e]
   ·rw [List.set_eq_of_length_le (by omega)]; simp [e]
theorem mu (ev : List (Nat × Int)) : ∀ (l : List (List Int)) (n : Nat), n < l.length → (bD l ev).getD n [] = l.getD n [] ++ (ev.filter (fun e => e.1 == n)).map (·.2) := by
 induction ev with
 | nil => intro l n hn; simp [bD]
 | cons m r ih =>
  intro l n hn
  show (bD (l.set m.1 _) r).getD n [] = _
  rw [ih _ n (by simpa using hn)]
  by_cases e : m.1 = n
  ·subst e
   rw [cX hn, if_pos rfl]
   simp
  ·by_cases hm : m.1 < l.length
   ·rw [cX hm, if_neg e]; simp [e]
   ·rw [List.set_eq_of_length_le (by omega)]; simp [e]
section
variable {c : Ci} {s : Ns} {w : Nat → Bool}
theorem tA (hc : aZ c) {p n : Nat} (hp : p < c.procs.length) {f : Fi} {k : Nat} (hk : k ≤ (a8 c p).takes.length) (h : n ∈ lH (a8 c p) f k) : n < c.chans.length ∧ (cr c n).dst = p := by
 obtain ⟨j, h1, h2, rfl⟩ := ns h
 obtain ⟨k1, k2, k3, k4⟩ := hc.tk p hp j (by omega)
 exact ⟨by show (lG (a8 c p) j).chan.toNat < _; omega, k4⟩
theorem Cv (hc : aZ c) {p : Nat} {e : Nat × Int} (hp : p < c.procs.length) {f : Fi} {k : Nat} (hk : k ≤ (a8 c p).puts.length) (h : e ∈ nr (a8 c p) f k) : e.1 < c.chans.length ∧ (cr c e.1).frm = p := by
 obtain ⟨j, h1, h2, h3, h4⟩ := qO h
 obtain ⟨k1, k2, k3, k4⟩ := hc.pt p hp j (by omega)
 rw [← h3]
 exact ⟨by show (sH (a8 c p) j).chan.toNat < _; omega, k4⟩
theorem jV (hc : aZ c) {p : Nat} (n : Nat) (hp : p < c.procs.length) {f : Fi} : ∀ {k : Nat}, k ≤ (a8 c p).takes.length → (lH (a8 c p) f k).count n = if n ∈ lH (a8 c p) f k then 1 else 0
 | 0, _ => by simp [lH]
 | k + 1, hk => by
  have ih := jV hc n hp (f := f) (k := k) (by omega)
  rw [lH, List.count_append, ih]
  by_cases h1 : f.pops.getD k false = true
  ·rw [if_pos h1]
   by_cases e : jG (a8 c p) k = n
   ·have : n ∉ lH (a8 c p) f k := by
     intro hm
     obtain ⟨j, g1, g2, g3⟩ := ns hm
     have := hc.td p hp j k (by omega) (by omega) (by rw [g3, e])
     omega
    rw [if_neg this, e, List.count_singleton_self, if_pos (List.mem_append_right _ (List.mem_singleton.2 rfl))]
   ·have e3 : ([jG (a8 c p) k]).count n = 0 := List.count_eq_zero.2 (by rw [List.mem_singleton]; exact fun h => e h.symm)
    rw [e3, Nat.add_zero]
    by_cases hm : n ∈ lH (a8 c p) f k
    ·rw [if_pos hm, if_pos (List.mem_append_left _ hm)]
    ·rw [if_neg hm, if_neg]
     intro h
     rcases List.mem_append.1 h with h | h
     ·exact hm h
     ·exact e (List.mem_singleton.1 h).symm
  ·rw [if_neg h1, List.append_nil]; rfl
theorem zn {n : Nat} : ∀ {P : Nat}, n ∈ iL c s w P → ∃ p, p < P ∧ ay c s w p = true ∧ n ∈ lH (a8 c p) (ae c s p) (a8 c p).takes.length
 | 0, h => by cases h
 | P + 1, h => by
  rw [iL, List.mem_append] at h
  rcases h with h | h
  ·obtain ⟨j, h1, h2⟩ := zn h; exact ⟨j, by omega, h2⟩
  ·split at h
   ·rename_i hh; exact ⟨P, by omega, hh, h⟩
   ·cases h
theorem uV (hc : aZ c) (n : Nat) : ∀ {P : Nat}, P ≤ c.procs.length → (iL c s w P).count n = if gQ c n < P then dT c s w n else 0
 | 0, _ => by simp [iL]
 | P + 1, hP => by
  have ih := uV hc n (P := P) (by omega)
  rw [iL, List.count_append, ih]
  by_cases hd : gQ c n = P
  ·rw [if_neg (show ¬gQ c n < P by omega), if_pos (show gQ c n < P + 1 by omega), dT, hd, Nat.zero_add]
   by_cases hf : ay c s w P = true
   ·rw [if_pos hf, jV hc n (by omega) (Nat.le_refl _)]
    simp [eo, hf]
   ·rw [if_neg hf]; simp [hf]
  ·have h0 : (if ay c s w P = true then lH (a8 c P) (ae c s P) (a8 c P).takes.length else []).count n = 0 := by
    split
    ·rw [jV hc n (by omega) (Nat.le_refl _), if_neg]
     intro hm
     have := (tA hc (by omega) (Nat.le_refl _) hm).2
     exact hd (by rw [gQ, this]; rfl)
    ·rfl
   rw [h0]
   by_cases h1 : gQ c n < P
   ·rw [if_pos h1, if_pos (show gQ c n < P + 1 by omega)]; rfl
   ·rw [if_neg h1, if_neg (show ¬gQ c n < P + 1 by omega)]
theorem FZ (hc : aZ c) {p n : Nat} (h : eo c s p n = true) : p < c.procs.length := by
 by_cases hp : p < c.procs.length
 ·exact hp
 ·unfold eo at h
  have e : a8 c p = ab := by rw [a8, List.getD, List.getElem?_eq_none (by omega)]; rfl
  rw [e] at h
  simp [lH] at h
theorem Io (hc : aZ c) (n : Nat) : (if gQ c n < c.procs.length then dT c s w n else 0) = dT c s w n := by
 split
 ·rfl
 ·rename_i h
  rw [dT, if_neg]
  rintro ⟨_, h2⟩
  exact h (FZ hc h2)
theorem Ip (hc : aZ c) {p n : Nat} (hp : p < c.procs.length) (hd : ¬eO c n = p) (f : Fi) : (nr (a8 c p) f (a8 c p).puts.length).filter (fun e => e.1 == n) = [] := by
 rw [List.filter_eq_nil_iff]
 intro e he h
 have h1 : e.1 = n := by simpa using h
 have := (Cv hc hp (Nat.le_refl _) he).2
 rw [h1] at this
 exact hd (by rw [eO, this]; rfl)
theorem zo (hc : aZ c) (n : Nat) : ∀ {P : Nat}, P ≤ c.procs.length → ((oz c s w P).filter (fun e => e.1 == n)).map (·.2) = if eO c n < P then cL c s w n else []
 | 0, _ => by simp [oz]
 | P + 1, hP => by
  have ih := zo hc n (P := P) (by omega)
  rw [oz, List.filter_append, List.map_append, ih]
  by_cases hd : eO c n = P
  ·rw [if_neg (show ¬eO c n < P by omega), if_pos (show eO c n < P + 1 by omega), cL, hd]
   by_cases hf : ay c s w P = true
   ·rw [if_pos hf, if_pos hf]; rfl
   ·rw [if_neg hf, if_neg hf]; rfl
  ·have h0 : (if ay c s w P = true then nr (a8 c P) (ae c s P) (a8 c P).puts.length else []).filter (fun e => e.1 == n) = [] := by
    split
    ·exact Ip hc (by omega) hd _
    ·rfl
   rw [h0]
   by_cases h1 : eO c n < P
   ·rw [if_pos h1, if_pos (show eO c n < P + 1 by omega)]; exact List.append_nil _
   ·rw [if_neg h1, if_neg (show ¬eO c n < P + 1 by omega)]; rfl
theorem my {p n : Nat} (hp : ¬p < c.procs.length) : sY c s p n = [] := by
 have e : a8 c p = ab := by rw [a8, List.getD, List.getElem?_eq_none (by omega)]; rfl
 unfold sY
 rw [e]; rfl
theorem Iq (n : Nat) : (if eO c n < c.procs.length then cL c s w n else []) = cL c s w n := by
 split
 ·rfl
 ·rename_i h
  rw [cL]
  split
  ·rw [my h]
  ·rfl
theorem DZ (hc : aZ c) (hs : s.chans.length = c.chans.length) : bD (bp s.chans (iL c s w c.procs.length)) (oz c s w c.procs.length) = (bv c s w).chans := by
 refine dQ (d := []) ?_ (fun n hn => ?_)
 ·rw [de, dV, bv, ap, hs]
 ·rw [de, dV] at hn
  rw [mu _ _ _ (by rw [dV]; exact hn), mt _ _ _ hn, uV hc n (Nat.le_refl _), zo hc n (Nat.le_refl _), Io hc, Iq]
  show _ = (tab (dU c s w) c.chans.length).getD n []
  rw [az (by omega)]
  rfl
end
end Go.Proofs.YtckgpflobhpnpaaGreat
