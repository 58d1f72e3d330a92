/-
  What the walk of an unbounded run keeps; which inputs are valid; what Streams and Trace answer.
-/
import Derived.Test.YtckgpflobhpnpaaGreatQStD
namespace Go.Proofs.YtckgpflobhpnpaaGreat
open Go.RowKit
set_option linter.unusedVariables false
set_option linter.unusedSimpArgs false
structure Mf (c : Ci) (u : Uf) : Prop where
 ps : ∀ p, p < c.procs.length → qF (a8 c p) (u.s p)
 fv : ∀ n, n < c.chans.length → ∀ i, i < (u.l n).length → dn ((u.l n).getD i 0) (cr c n).w
 rd : ∀ n, n < c.chans.length → u.rd n ≤ (u.l n).length
section
variable {c : Ci} {u v : Uf} {p n k : Nat} {f : Fi} {inp : List (List Int)}
theorem tG (hc : aZ c) (h : Mf c u) (hp : p < c.procs.length) : AO (a8 c p) (uZ c u p) where
 l := by rw [uZ, ap]
 v := fun i hi hh => by
  rw [uZ, az hi] at hh ⊢
  unfold Jn at hh ⊢
  split
  ·rename_i h0
   obtain ⟨k1, k2, k3, k4⟩ := hc.tk p hp i hi
   have := h.fv (jG (a8 c p) i) (by show (lG (a8 c p) i).chan.toNat < _; omega) _ h0
   rw [k3] at this
   exact this
  ·rename_i h0; rw [if_neg h0] at hh; cases hh
theorem zF (hc : aZ c) (hp : p < c.procs.length) : (gg c p f n).length ≤ 1 := by
 rw [gg, List.length_map]; exact xM hc hp n (Nat.le_refl _)
theorem GF (hc : aZ c) (h : Mf c u) (hp : p < c.procs.length) (hcan : gV c u p = true) : Mf c (ak c u p) where
 ps := fun q hq => by
  show qF _ (if q = p then _ else u.s q)
  by_cases e : q = p
  ·rw [if_pos e, e]; exact oU (hc.pr p hp) (h.ps p hp) (tG hc h hp)
  ·rw [if_neg e]; exact h.ps q hq
 fv := fun n hn i hi => by
  have hl : (ak c u p).l n = u.l n ++ gg c p (fc c u p) n := rfl
  rw [hl] at hi ⊢
  rw [mA]
  split
  ·rename_i h0; exact h.fv n hn i h0
  ·rename_i h0
   rw [List.length_append] at hi
   have hm := jX (d := (0 : Int)) (show i - (u.l n).length < (gg c p (fc c u p) n).length by omega)
   generalize (gg c p (fc c u p) n).getD _ 0 = v at hm
   unfold gg at hm
   obtain ⟨e, he, rfl⟩ := List.mem_map.1 hm
   obtain ⟨h1, h2⟩ := List.mem_filter.1 he
   rw [beq_iff_eq] at h2
   obtain ⟨j, j1, j2, j3, j4⟩ := qO h1
   have := qG (rs := Eb c p) (hc.pr p hp) (h.ps p hp) (tG hc h hp) j1 j2
   rw [← (hc.pt p hp j j1).2.2.1, j3, h2] at this
   rw [← j4]; exact this
 rd := fun n hn => by
  show u.rd n + ie c p (fc c u p) n ≤ (u.l n ++ gg c p (fc c u p) n).length
  rw [List.length_append]
  have h0 := h.rd n hn
  unfold ie
  split
  ·rename_i hm
   obtain ⟨j, j1, j2, j3⟩ := ns hm
   unfold gV fc at hcan
   rw [iJ] at hcan
   have := Cw hcan j1 j2
   rw [uZ, az j1] at this
   unfold Jn at this
   split at this
   ·rename_i hlt; rw [j3] at hlt; omega
   ·cases this
  ·omega
def u6 (c : Ci) (n : Nat) (u : Uf) (k : Nat) : Bool := decide (u.cnt k < n) && gV c u k
def bh (c : Ci) (n : Nat) (u : Uf) (k : Nat) : Fi := if u.cnt k < n then fc c u k else ⟨false, bS, [], []⟩
theorem GG (h : n ≤ u.cnt k) : bh c n u k = ⟨false, bS, [], []⟩ := if_neg (by omega)
theorem x8 (h : u.cnt k < n) : bh c n u k = fc c u k := if_pos h
theorem CX (h : n ≤ u.cnt k) : u6 c n u k = false := by rw [u6, decide_eq_false (by omega)]; rfl
theorem u7 (h : u.cnt k < n) : u6 c n u k = gV c u k := by rw [u6, decide_eq_true h]; rfl
theorem u9 (h : u6 c n u k = true) : u.cnt k < n ∧ gV c u k = true := by
 unfold u6 at h; simpa using h
structure UI (c : Ci) (inp : List (List Int)) (n : Nat) (u : Uf) : Prop where
 run : ∃ m, dW c (u0 c inp) m ∧ u = bc c (u0 c inp) m
 cn : ∀ q, u.cnt q ≤ n
 ok : Mf c u
 ln : ∀ k, (u.l k).length + gF n u.cnt c.procs.length ≤ 1000 + n * c.procs.length
theorem Mg (hc : aZ c) (h : lJ c inp) : Mf c (u0 c inp) where
 ps := fun p hp => by
  show qF _ (if p < c.procs.length then _ else _)
  rw [if_pos hp]; exact zD (hc.pr p hp)
 fv := h.fv
 rd := fun n hn => Nat.zero_le _
theorem GH (hc : aZ c) (h : lJ c inp) (n : Nat) : UI c inp n (u0 c inp) where
 run := ⟨[], trivial, rfl⟩
 cn := fun q => Nat.zero_le _
 ok := Mg hc h
 ln := fun k => by
  have := h.sm k
  have := Be n (u0 c inp).cnt c.procs.length
  show (inp.getD k []).length + _ ≤ _
  omega
theorem qV (hp : p < c.procs.length) (h : u6 c n u p = true) : gF n (ak c u p).cnt c.procs.length + 1 = gF n u.cnt c.procs.length := by
 have := qU (u9 h).1 c.procs.length
 rw [if_pos hp] at this
 exact this
theorem CY (hc : aZ c) (h : UI c inp n u) (hp : p < c.procs.length) (hcp : u6 c n u p = true) : UI c inp n (ak c u p) where
 run := by
  obtain ⟨m, h1, h2⟩ := h.run
  refine ⟨m ++ [p], j6 h1 ⟨hp, by rw [← h2]; exact (u9 hcp).2, trivial⟩, by rw [gE, ← h2]; rfl⟩
 cn := fun q => by
  show (if q = p then u.cnt q + 1 else u.cnt q) ≤ n
  have := h.cn q
  have := (u9 hcp).1
  split
  ·rename_i e; rw [e]; omega
  ·omega
 ok := GF hc h.ok hp (u9 hcp).2
 ln := fun k => by
  have h1 := h.ln k
  have h2 := qV hp hcp
  have h3 := zF (f := fc c u p) (n := k) hc hp
  show (u.l k ++ gg c p (fc c u p) k).length + _ ≤ _
  rw [List.length_append]
  omega
theorem GI (h : UI c inp n u) (k : Nat) : (u.l k).length ≤ 1000 + n * c.procs.length := by have := h.ln k; omega
theorem KL (hc : aZ c) (h : UI c inp n u) (he : ∀ p, p < c.procs.length → u6 c n u p = false) : u = dA c inp n := by
 obtain ⟨m, h1, h2⟩ := h.run
 have hcn : ∀ q, u.cnt q = m.count q := fun q => by rw [h2, ft]; show 0 + _ = _; omega
 rw [h2]
 refine KH hc ⟨h1, fun q => by rw [← hcn]; exact h.cn q, fun p hp hcan => ?_⟩
 rw [← h2] at hcan
 have := he p hp
 rw [← hcn]
 refine Nat.le_of_not_lt fun hlt => ?_
 rw [u7 hlt, hcan] at this
 cases this
abbrev bR (c : Ci) (u : Uf) : List (List Int) := tab u.l c.chans.length
abbrev i7 (c : Ci) (u : Uf) : List Ps := tab u.s c.procs.length
abbrev jH (c : Ci) (u : Uf) : List Int := tab (fun m => (u.rd m : Int)) c.chans.length
abbrev da (c : Ci) (u : Uf) : List Int := tab (fun q => (u.cnt q : Int)) c.procs.length
theorem KM (hp : p < c.procs.length) : (i7 c u).set p (fc c u p).s = i7 c (ak c u p) := by
 refine dQ (d := bS) (by simp [ap]) (fun i hi => ?_)
 rw [List.length_set, ap] at hi
 rw [cX (by rw [ap]; exact hp), az hi, az hi]
 show _ = (if i = p then _ else u.s i)
 by_cases e : p = i
 ·rw [if_pos e, if_pos e.symm]
 ·rw [if_neg e, if_neg (fun q => e q.symm)]
theorem GJ (hp : p < c.procs.length) : (da c u).set p ((u.cnt p : Int) + 1) = da c (ak c u p) := by
 refine dQ (d := (0 : Int)) (by simp [ap]) (fun i hi => ?_)
 rw [List.length_set, ap] at hi
 rw [cX (by rw [ap]; exact hp), az hi, az hi]
 show _ = (((if i = p then u.cnt i + 1 else u.cnt i : Nat)) : Int)
 by_cases e : p = i
 ·rw [if_pos e, if_pos e.symm, ← e]; simp
 ·rw [if_neg e, if_neg (fun q => e q.symm)]
def j7 (l : List Int) (ev : List Nat) : List Int := ev.foldl (fun l n => l.set n (l.getD n 0 + 1)) l
theorem r9 (ev : List Nat) : ∀ (l : List Int), (j7 l ev).length = l.length := by
 induction ev with
 | nil => intro l; rfl
 | cons a r ih => intro l; rw [j7, List.foldl_cons]; exact (ih _).trans (List.length_set ..)
theorem Bf (l : List Int) (ev : List Nat) (n : Nat) : j7 l (ev ++ [n]) = (j7 l ev).set n ((j7 l ev).getD n 0 + 1) := by simp [j7, List.foldl_append]
theorem wM (ev : List Nat) : ∀ (l : List Int) (n : Nat), n < l.length → (j7 l ev).getD n 0 = l.getD n 0 + (ev.count n : Int) := by
 induction ev with
 | nil => intro l n hn; show l.getD n 0 = _; simp
 | cons a r ih =>
  intro l n hn
  rw [j7, List.foldl_cons]
  refine (ih _ n (by rw [List.length_set]; exact hn)).trans ?_
  rw [List.count_cons]
  by_cases e : a = n
  ·subst e; rw [cX hn, if_pos rfl]; simp; omega
  ·rw [show (l.set a (l.getD a 0 + 1)).getD n 0 = l.getD n 0 by simp [List.getD, List.getElem?_set, e]]
   have : (a == n) = false := beq_eq_false_iff_ne.2 e
   rw [this]; simp
theorem KN (hc : aZ c) (hp : p < c.procs.length) : j7 (jH c u) (lH (a8 c p) (fc c u p) (a8 c p).takes.length) = jH c (ak c u p) := by
 refine dQ (d := (0 : Int)) (by rw [r9, ap, ap]) (fun i hi => ?_)
 rw [r9, ap] at hi
 rw [wM _ _ _ (by rw [ap]; exact hi), az hi, az hi, jV hc i hp (Nat.le_refl _)]
 show _ = ((u.rd i + ie c p (fc c u p) i : Nat) : Int)
 unfold ie
 split <;> simp
theorem Mh (hc : aZ c) (hp : p < c.procs.length) (hk : k ≤ (a8 c p).takes.length) (hn : n < c.chans.length) : 0 ≤ (j7 (jH c u) (lH (a8 c p) f k)).getD n 0 ∧ (j7 (jH c u) (lH (a8 c p) f k)).getD n 0 ≤ u.rd n + 1 := by
 rw [wM _ _ _ (by rw [ap]; exact hn), az hn, jV hc n hp hk]
 split <;> constructor <;> simp <;> omega
theorem GK (hc : aZ c) (hp : p < c.procs.length) : bD (bR c u) (nr (a8 c p) (fc c u p) (a8 c p).puts.length) = bR c (ak c u p) := by
 refine dQ (d := []) (by rw [de, ap, ap]) (fun i hi => ?_)
 rw [de, ap] at hi
 rw [mu _ _ _ (by rw [ap]; exact hi), az hi, az hi]
 rfl
theorem Js (hn : n < c.chans.length) : ((bD (bR c u) (nr (a8 c p) f k)).getD n []).length ≤ (u.l n).length + k := by
 have h1 := CH (nr (a8 c p) f k) (bR c u) n (by rw [ap]; exact hn)
 rw [az hn] at h1
 exact Nat.le_trans h1 (Nat.add_le_add_left tC _)
def vz (c : Ci) (inp : List (List Int)) (n : Nat) : Bool := decide ((inp.getD n []).length ≤ 1000) && ((decide ((inp.getD n []).length = 0) || decide ((cr c n).frm = -1)) && zm (inp.getD n []) (cr c n).w)
def dX (c : Ci) (inp : List (List Int)) : Bool := decide (inp.length = c.chans.length) && dR (vz c inp) c.chans.length
theorem dH : dX c inp = true ↔ lJ c inp := by
 unfold dX vz
 simp only [Bool.and_eq_true, decide_eq_true_eq, cH, Bool.or_eq_true, FY]
 constructor
 ·rintro ⟨h1, h2⟩
  refine ⟨h1, fun n hn hf => ?_, fun n hn => (h2 n hn).2.2, fun n => ?_⟩
  ·rcases (h2 n hn).2.1 with h | h
   ·exact List.eq_nil_of_length_eq_zero h
   ·exact absurd h hf
  ·by_cases hn : n < c.chans.length
   ·exact (h2 n hn).1
   ·rw [List.getD_eq_getElem?_getD, List.getElem?_eq_none (by omega)]; simp
 ·rintro ⟨h1, h2, h3, h4⟩
  refine ⟨h1, fun n hn => ⟨h4 n, ?_, h3 n hn⟩⟩
  by_cases hf : (cr c n).frm = -1
  ·exact .inr hf
  ·exact .inl (by rw [h2 n hn hf]; rfl)
def eP (c : Ci) (inp : List (List Int)) (n : Int) : List (List Int) × List Int × Int := if dX c inp = true ∧ 0 ≤ n ∧ n ≤ 100 then (bR c (dA c inp n.toNat), da c (dA c inp n.toNat), 0) else ([], [], 1)
theorem qW {k : Int} (h : ¬(dX c inp = true ∧ 0 ≤ k ∧ k ≤ 100)) : eP c inp k = ([], [], 1) := if_neg h
theorem mH {k : Int} (h : dX c inp = true) (h2 : 0 ≤ k ∧ k ≤ 100) : eP c inp k = (bR c (dA c inp k.toNat), da c (dA c inp k.toNat), 0) := if_pos ⟨h, h2⟩
def pQ (c : Ci) (inp : List (List Int)) (cls : List ByteArray) : Uf := bc c (u0 c inp) (eF c (Eg c inp) (cls.map (a6 c)))
def gX (c : Ci) (inp : List (List Int)) (cls : List ByteArray) : List (List Int) × List Int × Int := if dX c inp = true ∧ cls.length ≤ 100 then (bR c (pQ c inp cls), da c (pQ c inp cls), 0) else ([], [], 1)
theorem tH {cls : List ByteArray} (h : ¬(dX c inp = true ∧ cls.length ≤ 100)) : gX c inp cls = ([], [], 1) := if_neg h
theorem j8 {cls : List ByteArray} (h : dX c inp = true) (h2 : cls.length ≤ 100) : gX c inp cls = (bR c (pQ c inp cls), da c (pQ c inp cls), 0) := if_pos ⟨h, h2⟩
end
section
variable {a b : List (List Int)} {i : Nat} {c : Ci} {n : Nat} {inp : List (List Int)}
theorem nJ (h : ¬a.length = b.length) : er a b = false := by rw [er, decide_eq_false h]; rfl
theorem nM (hi : i < a.length) (h : dj (a.getD i []) (b.getD i []) < (a.getD i []).length) : er a b = false := by
 rw [er, qC hi (by rw [decide_eq_true h]; rfl), Bool.and_false]
theorem nN (h : a.length = b.length) (h2 : ∀ q, q < a.length → (!decide (dj (a.getD q []) (b.getD q []) < (a.getD q []).length)) = true) : er a b = true := by
 rw [er, decide_eq_true h, cH.2 h2]; rfl
theorem KO (hi : i < min a.length b.length) (h : ¬dj (a.getD i []) (b.getD i []) < min (a.getD i []).length (b.getD i []).length) : s6 a b (min a.length b.length - i) i = s6 a b (min a.length b.length - (i + 1)) (i + 1) := by
 rw [show min a.length b.length - i = min a.length b.length - (i + 1) + 1 by omega, s6, if_neg h]
theorem CZ (hi : i < min a.length b.length) (h : dj (a.getD i []) (b.getD i []) < min (a.getD i []).length (b.getD i []).length) : s6 a b (min a.length b.length - i) i = ((i : Int), (dj (a.getD i []) (b.getD i []) : Int), true) := by
 rw [show min a.length b.length - i = min a.length b.length - (i + 1) + 1 by omega, s6, if_pos h]
theorem C0 (hi : min a.length b.length ≤ i) : s6 a b (min a.length b.length - i) i = (0, 0, false) := by
 rw [show min a.length b.length - i = 0 by omega]; rfl
theorem Jt (h1 : (inp.getD n []).length ≤ 1000) (h2 : (inp.getD n []).length = 0 ∨ (cr c n).frm = -1) (h3 : (!decide (0 ≤ sZ (inp.getD n []) (cr c n).w)) = true) : vz c inp n = true := by
 rw [wG] at h3
 unfold vz
 rw [h3, decide_eq_true h1, Bool.and_true, Bool.true_and]
 rcases h2 with h2 | h2
 ·rw [decide_eq_true h2, Bool.true_or]
 ·rw [decide_eq_true h2, Bool.or_true]
theorem nO (h : ¬inp.length = c.chans.length) : dX c inp = false := by rw [dX, decide_eq_false h]; rfl
theorem Bg (hn : n < c.chans.length) (h : vz c inp n = false) : dX c inp = false := by rw [dX, qC hn h, Bool.and_false]
theorem nP (hn : n < c.chans.length) (h : ¬(inp.getD n []).length ≤ 1000) : dX c inp = false := Bg hn (by unfold vz; rw [decide_eq_false h]; rfl)
theorem nQ (hn : n < c.chans.length) (h : ¬(inp.getD n []).length = 0) (h2 : ¬(cr c n).frm = -1) : dX c inp = false := Bg hn (by unfold vz; rw [decide_eq_false h, decide_eq_false h2]; simp)
theorem nR (hn : n < c.chans.length) (h : decide (0 ≤ sZ (inp.getD n []) (cr c n).w) = true) : dX c inp = false := Bg hn (by unfold vz; rw [← wG, h]; simp)
theorem nU (h : inp.length = c.chans.length) (h2 : ∀ z, z < c.chans.length → vz c inp z = true) : dX c inp = true := by rw [dX, decide_eq_true h, cH.2 h2]; rfl
end
end Go.Proofs.YtckgpflobhpnpaaGreat
