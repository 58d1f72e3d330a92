/-
  What the walk of an unbounded run keeps; which inputs are valid; what Streams and Trace answer.
-/
import Derived.Test.YtckgpflobhpnpaaQStD
namespace Go.Proofs.Ytckgpflobhpnpaa
open Go.RowKit
set_option linter.unusedVariables false
set_option linter.unusedSimpArgs false
structure LW (c : Ci) (u : Uf) : Prop where
 ps : ∀ p, p < c.procs.length → qF (be c p) (u.s p)
 fv : ∀ n, n < c.chans.length → ∀ i, i < (u.l n).length → dt ((u.l n).getD i 0) (eO c n).w
 rd : ∀ n, n < c.chans.length → u.rd n ≤ (u.l n).length
section
variable {c : Ci} {u v : Uf} {p n k : Nat} {f : Fi} {inp : List (List Int)}
theorem tG (hc : a6 c) (h : LW c u) (hp : p < c.procs.length) : AU (be c p) (u3 c u p) where
 l := by rw [u3, ap]
 v := fun i hi hh => by
  rw [u3, aB hi] at hh ⊢
  unfold Jr at hh ⊢
  split
  ·rename_i h0
   obtain ⟨k1, k2, k3, k4⟩ := hc.tk p hp i hi
   have := h.fv (mA (be c p) i) (by show (lM (be c p) i).chan.toNat < _; omega) _ h0
   rw [k3] at this
   exact this
  ·rename_i h0; rw [if_neg h0] at hh; cases hh
theorem zJ (hc : a6 c) (hp : p < c.procs.length) : (fq c p f n).length ≤ 1 := by
 rw [fq, List.length_map]; exact xP hc hp n (Nat.le_refl _)
theorem GF (hc : a6 c) (h : LW c u) (hp : p < c.procs.length) (hcan : gF c u p = true) : LW c (am c u p) where
 ps := fun q hq => by
  show qF _ (if q = p then _ else u.s q)
  by_cases e : q = p
  ·rw [if_pos e, e]; exact oY (hc.pr p hp) (h.ps p hp) (tG hc h hp)
  ·rw [if_neg e]; exact h.ps q hq
 fv := fun n hn i hi => by
  have hl : (am c u p).l n = u.l n ++ fq c p (ew c u p) n := rfl
  rw [hl] at hi ⊢
  rw [jV]
  split
  ·rename_i h0; exact h.fv n hn i h0
  ·rename_i h0
   rw [List.length_append] at hi
   have hm := jW (d := (0 : Int)) (show i - (u.l n).length < (fq c p (ew c u p) n).length by omega)
   generalize (fq c p (ew c u p) n).getD _ 0 = v at hm
   unfold fq at hm
   obtain ⟨e, he, rfl⟩ := List.mem_map.1 hm
   obtain ⟨h1, h2⟩ := List.mem_filter.1 he
   rw [beq_iff_eq] at h2
   obtain ⟨j, j1, j2, j3, j4⟩ := qO h1
   have := qG (rs := Gi c p) (hc.pr p hp) (h.ps p hp) (tG hc h hp) j1 j2
   rw [← (hc.pt p hp j j1).2.2.1, j3, h2] at this
   rw [← j4]; exact this
 rd := fun n hn => by
  show u.rd n + i7 c p (ew c u p) n ≤ (u.l n ++ fq c p (ew c u p) n).length
  rw [List.length_append]
  have h0 := h.rd n hn
  unfold i7
  split
  ·rename_i hm
   obtain ⟨j, j1, j2, j3⟩ := nz hm
   unfold gF ew at hcan
   rw [kM] at hcan
   have := CI hcan j1 j2
   rw [u3, aB j1] at this
   unfold Jr at this
   split at this
   ·rename_i hlt; rw [j3] at hlt; omega
   ·cases this
  ·omega
def vf (c : Ci) (n : Nat) (u : Uf) (k : Nat) : Bool := decide (u.cnt k < n) && gF c u k
def bi (c : Ci) (n : Nat) (u : Uf) (k : Nat) : Fi := if u.cnt k < n then ew c u k else ⟨false, bV, [], []⟩
theorem GG (h : n ≤ u.cnt k) : bi c n u k = ⟨false, bV, [], []⟩ := if_neg (by omega)
theorem yc (h : u.cnt k < n) : bi c n u k = ew c u k := if_pos h
theorem C7 (h : n ≤ u.cnt k) : vf c n u k = false := by rw [vf, decide_eq_false (by omega)]; rfl
theorem vg (h : u.cnt k < n) : vf c n u k = gF c u k := by rw [vf, decide_eq_true h]; rfl
theorem vi (h : vf c n u k = true) : u.cnt k < n ∧ gF c u k = true := by
 unfold vf at h; simpa using h
structure UI (c : Ci) (inp : List (List Int)) (n : Nat) (u : Uf) : Prop where
 run : ∃ m, hU c (u0 c inp) m ∧ u = bP c (u0 c inp) m
 cn : ∀ q, u.cnt q ≤ n
 ok : LW c u
 ln : ∀ k, (u.l k).length + gG n u.cnt c.procs.length ≤ 1000 + n * c.procs.length
theorem LX (hc : a6 c) (h : fT c inp) : LW c (u0 c inp) where
 ps := fun p hp => by
  show qF _ (if p < c.procs.length then _ else _)
  rw [if_pos hp]; exact zH (hc.pr p hp)
 fv := h.fv
 rd := fun n hn => Nat.zero_le _
theorem GH (hc : a6 c) (h : fT c inp) (n : Nat) : UI c inp n (u0 c inp) where
 run := ⟨[], trivial, rfl⟩
 cn := fun q => Nat.zero_le _
 ok := LX hc h
 ln := fun k => by
  have := h.sm k
  have := Bl n (u0 c inp).cnt c.procs.length
  show (inp.getD k []).length + _ ≤ _
  omega
theorem qX (hp : p < c.procs.length) (h : vf c n u p = true) : gG n (am c u p).cnt c.procs.length + 1 = gG n u.cnt c.procs.length := by
 have := qV (vi h).1 c.procs.length
 rw [if_pos hp] at this
 exact this
theorem C8 (hc : a6 c) (h : UI c inp n u) (hp : p < c.procs.length) (hcp : vf c n u p = true) : UI c inp n (am c u p) where
 run := by
  obtain ⟨m, h1, h2⟩ := h.run
  refine ⟨m ++ [p], qR h1 ⟨hp, by rw [← h2]; exact (vi hcp).2, trivial⟩, by rw [iM, ← h2]; rfl⟩
 cn := fun q => by
  show (if q = p then u.cnt q + 1 else u.cnt q) ≤ n
  have := h.cn q
  have := (vi hcp).1
  split
  ·rename_i e; rw [e]; omega
  ·omega
 ok := GF hc h.ok hp (vi hcp).2
 ln := fun k => by
  have h1 := h.ln k
  have h2 := qX hp hcp
  have h3 := zJ (f := ew c u p) (n := k) hc hp
  show (u.l k ++ fq c p (ew c u p) k).length + _ ≤ _
  rw [List.length_append]
  omega
theorem GI (h : UI c inp n u) (k : Nat) : (u.l k).length ≤ 1000 + n * c.procs.length := by have := h.ln k; omega
theorem Kz (hc : a6 c) (h : UI c inp n u) (he : ∀ p, p < c.procs.length → vf c n u p = false) : u = cu c inp n := by
 obtain ⟨m, h1, h2⟩ := h.run
 have hcn : ∀ q, u.cnt q = m.count q := fun q => by rw [h2, dY]; show 0 + _ = _; omega
 rw [h2]
 refine Kw hc ⟨h1, fun q => by rw [← hcn]; exact h.cn q, fun p hp hcan => ?_⟩
 rw [← h2] at hcan
 have := he p hp
 rw [← hcn]
 refine Nat.le_of_not_lt fun hlt => ?_
 rw [vg hlt, hcan] at this
 cases this
abbrev bS (c : Ci) (u : Uf) : List (List Int) := tab u.l c.chans.length
abbrev i3 (c : Ci) (u : Uf) : List Ps := tab u.s c.procs.length
abbrev jE (c : Ci) (u : Uf) : List Int := tab (fun m => (u.rd m : Int)) c.chans.length
abbrev dc (c : Ci) (u : Uf) : List Int := tab (fun q => (u.cnt q : Int)) c.procs.length
theorem KA (hp : p < c.procs.length) : (i3 c u).set p (ew c u p).s = i3 c (am c u p) := by
 refine dR (d := bV) (by simp [ap]) (fun i hi => ?_)
 rw [List.length_set, ap] at hi
 rw [cZ (by rw [ap]; exact hp), aB hi, aB hi]
 show _ = (if i = p then _ else u.s i)
 by_cases e : p = i
 ·rw [if_pos e, if_pos e.symm]
 ·rw [if_neg e, if_neg (fun q => e q.symm)]
theorem GJ (hp : p < c.procs.length) : (dc c u).set p ((u.cnt p : Int) + 1) = dc c (am c u p) := by
 refine dR (d := (0 : Int)) (by simp [ap]) (fun i hi => ?_)
 rw [List.length_set, ap] at hi
 rw [cZ (by rw [ap]; exact hp), aB hi, aB hi]
 show _ = (((if i = p then u.cnt i + 1 else u.cnt i : Nat)) : Int)
 by_cases e : p = i
 ·rw [if_pos e, if_pos e.symm, ← e]; simp
 ·rw [if_neg e, if_neg (fun q => e q.symm)]
def j6 (l : List Int) (ev : List Nat) : List Int := ev.foldl (fun l n => l.set n (l.getD n 0 + 1)) l
theorem sd (ev : List Nat) : ∀ (l : List Int), (j6 l ev).length = l.length := by
 induction ev with
 | nil => intro l; rfl
 | cons a r ih => intro l; rw [j6, List.foldl_cons]; exact (ih _).trans (List.length_set ..)
theorem Bn (l : List Int) (ev : List Nat) (n : Nat) : j6 l (ev ++ [n]) = (j6 l ev).set n ((j6 l ev).getD n 0 + 1) := by simp [j6, List.foldl_append]
theorem wS (ev : List Nat) : ∀ (l : List Int) (n : Nat), n < l.length → (j6 l ev).getD n 0 = l.getD n 0 + (ev.count n : Int) := by
 induction ev with
 | nil => intro l n hn; show l.getD n 0 = _; simp
 | cons a r ih =>
  intro l n hn
  rw [j6, List.foldl_cons]
  refine (ih _ n (by rw [List.length_set]; exact hn)).trans ?_
  rw [List.count_cons]
  by_cases e : a = n
  ·subst e; rw [cZ hn, if_pos rfl]; simp; omega
  ·rw [show (l.set a (l.getD a 0 + 1)).getD n 0 = l.getD n 0 by simp [List.getD, List.getElem?_set, e]]
   have : (a == n) = false := beq_eq_false_iff_ne.2 e
   rw [this]; simp
theorem KB (hc : a6 c) (hp : p < c.procs.length) : j6 (jE c u) (lN (be c p) (ew c u p) (be c p).takes.length) = jE c (am c u p) := by
 refine dR (d := (0 : Int)) (by rw [sd, ap, ap]) (fun i hi => ?_)
 rw [sd, ap] at hi
 rw [wS _ _ _ (by rw [ap]; exact hi), aB hi, aB hi, jT hc i hp (Nat.le_refl _)]
 show _ = ((u.rd i + i7 c p (ew c u p) i : Nat) : Int)
 unfold i7
 split <;> simp
theorem LZ (hc : a6 c) (hp : p < c.procs.length) (hk : k ≤ (be c p).takes.length) (hn : n < c.chans.length) : 0 ≤ (j6 (jE c u) (lN (be c p) f k)).getD n 0 ∧ (j6 (jE c u) (lN (be c p) f k)).getD n 0 ≤ u.rd n + 1 := by
 rw [wS _ _ _ (by rw [ap]; exact hn), aB hn, jT hc n hp hk]
 split <;> constructor <;> simp <;> omega
theorem GK (hc : a6 c) (hp : p < c.procs.length) : bG (bS c u) (ny (be c p) (ew c u p) (be c p).puts.length) = bS c (am c u p) := by
 refine dR (d := []) (by rw [dg, ap, ap]) (fun i hi => ?_)
 rw [dg, ap] at hi
 rw [mC _ _ _ (by rw [ap]; exact hi), aB hi, aB hi]
 rfl
theorem Jw (hn : n < c.chans.length) : ((bG (bS c u) (ny (be c p) f k)).getD n []).length ≤ (u.l n).length + k := by
 have h1 := CU (ny (be c p) f k) (bS c u) n (by rw [ap]; exact hn)
 rw [aB hn] at h1
 exact Nat.le_trans h1 (Nat.add_le_add_left tC _)
def vH (c : Ci) (inp : List (List Int)) (n : Nat) : Bool := decide ((inp.getD n []).length ≤ 1000) && ((decide ((inp.getD n []).length = 0) || decide ((eO c n).frm = -1)) && zt (inp.getD n []) (eO c n).w)
def dZ (c : Ci) (inp : List (List Int)) : Bool := decide (inp.length = c.chans.length) && dT (vH c inp) c.chans.length
theorem dn : dZ c inp = true ↔ fT c inp := by
 unfold dZ vH
 simp only [Bool.and_eq_true, decide_eq_true_eq, cH, Bool.or_eq_true, F0]
 constructor
 ·rintro ⟨h1, h2⟩
  refine ⟨h1, fun n hn hf => ?_, fun n hn => (h2 n hn).2.2, fun n => ?_⟩
  ·rcases (h2 n hn).2.1 with h | h
   ·exact List.eq_nil_of_length_eq_zero h
   ·exact absurd h hf
  ·by_cases hn : n < c.chans.length
   ·exact (h2 n hn).1
   ·rw [List.getD_eq_getElem?_getD, List.getElem?_eq_none (by omega)]; simp
 ·rintro ⟨h1, h2, h3, h4⟩
  refine ⟨h1, fun n hn => ⟨h4 n, ?_, h3 n hn⟩⟩
  by_cases hf : (eO c n).frm = -1
  ·exact .inr hf
  ·exact .inl (by rw [h2 n hn hf]; rfl)
def eR (c : Ci) (inp : List (List Int)) (n : Int) : List (List Int) × List Int × Int := if dZ c inp = true ∧ 0 ≤ n ∧ n ≤ 100 then (bS c (cu c inp n.toNat), dc c (cu c inp n.toNat), 0) else ([], [], 1)
theorem qY {k : Int} (h : ¬(dZ c inp = true ∧ 0 ≤ k ∧ k ≤ 100)) : eR c inp k = ([], [], 1) := if_neg h
theorem j7 {k : Int} (h : dZ c inp = true) (h2 : 0 ≤ k ∧ k ≤ 100) : eR c inp k = (bS c (cu c inp k.toNat), dc c (cu c inp k.toNat), 0) := if_pos ⟨h, h2⟩
def qZ (c : Ci) (inp : List (List Int)) (cls : List ByteArray) : Uf := bP c (u0 c inp) (ft c (C4 c inp) (cls.map (bc c)))
def gT (c : Ci) (inp : List (List Int)) (cls : List ByteArray) : List (List Int) × List Int × Int := if dZ c inp = true ∧ cls.length ≤ 100 then (bS c (qZ c inp cls), dc c (qZ c inp cls), 0) else ([], [], 1)
theorem tH {cls : List ByteArray} (h : ¬(dZ c inp = true ∧ cls.length ≤ 100)) : gT c inp cls = ([], [], 1) := if_neg h
theorem j8 {cls : List ByteArray} (h : dZ c inp = true) (h2 : cls.length ≤ 100) : gT c inp cls = (bS c (qZ c inp cls), dc c (qZ c inp cls), 0) := if_pos ⟨h, h2⟩
end
section
variable {a b : List (List Int)} {i : Nat} {c : Ci} {n : Nat} {inp : List (List Int)}
theorem nN (h : ¬a.length = b.length) : dm a b = false := by rw [dm, decide_eq_false h]; rfl
theorem nO (hi : i < a.length) (h : dk (a.getD i []) (b.getD i []) < (a.getD i []).length) : dm a b = false := by
 rw [dm, qC hi (by rw [decide_eq_true h]; rfl), Bool.and_false]
theorem nP (h : a.length = b.length) (h2 : ∀ q, q < a.length → (!decide (dk (a.getD q []) (b.getD q []) < (a.getD q []).length)) = true) : dm a b = true := by
 rw [dm, decide_eq_true h, cH.2 h2]; rfl
theorem KC (hi : i < min a.length b.length) (h : ¬dk (a.getD i []) (b.getD i []) < min (a.getD i []).length (b.getD i []).length) : s7 a b (min a.length b.length - i) i = s7 a b (min a.length b.length - (i + 1)) (i + 1) := by
 rw [show min a.length b.length - i = min a.length b.length - (i + 1) + 1 by omega, s7, if_neg h]
theorem C9 (hi : i < min a.length b.length) (h : dk (a.getD i []) (b.getD i []) < min (a.getD i []).length (b.getD i []).length) : s7 a b (min a.length b.length - i) i = ((i : Int), (dk (a.getD i []) (b.getD i []) : Int), true) := by
 rw [show min a.length b.length - i = min a.length b.length - (i + 1) + 1 by omega, s7, if_pos h]
theorem Da (hi : min a.length b.length ≤ i) : s7 a b (min a.length b.length - i) i = (0, 0, false) := by
 rw [show min a.length b.length - i = 0 by omega]; rfl
theorem Jx (h1 : (inp.getD n []).length ≤ 1000) (h2 : (inp.getD n []).length = 0 ∨ (eO c n).frm = -1) (h3 : (!decide (0 ≤ s5 (inp.getD n []) (eO c n).w)) = true) : vH c inp n = true := by
 rw [wL] at h3
 unfold vH
 rw [h3, decide_eq_true h1, Bool.and_true, Bool.true_and]
 rcases h2 with h2 | h2
 ·rw [decide_eq_true h2, Bool.true_or]
 ·rw [decide_eq_true h2, Bool.or_true]
theorem nQ (h : ¬inp.length = c.chans.length) : dZ c inp = false := by rw [dZ, decide_eq_false h]; rfl
theorem Bo (hn : n < c.chans.length) (h : vH c inp n = false) : dZ c inp = false := by rw [dZ, qC hn h, Bool.and_false]
theorem nR (hn : n < c.chans.length) (h : ¬(inp.getD n []).length ≤ 1000) : dZ c inp = false := Bo hn (by unfold vH; rw [decide_eq_false h]; rfl)
theorem nU (hn : n < c.chans.length) (h : ¬(inp.getD n []).length = 0) (h2 : ¬(eO c n).frm = -1) : dZ c inp = false := Bo hn (by unfold vH; rw [decide_eq_false h, decide_eq_false h2]; simp)
theorem nW (hn : n < c.chans.length) (h : decide (0 ≤ s5 (inp.getD n []) (eO c n).w) = true) : dZ c inp = false := Bo hn (by unfold vH; rw [← wL, h]; simp)
theorem nX (h : inp.length = c.chans.length) (h2 : ∀ z, z < c.chans.length → vH c inp z = true) : dZ c inp = true := by rw [dZ, decide_eq_true h, cH.2 h2]; rfl
end
end Go.Proofs.Ytckgpflobhpnpaa
