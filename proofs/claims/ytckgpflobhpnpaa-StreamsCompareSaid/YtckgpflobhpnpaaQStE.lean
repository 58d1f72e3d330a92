/-
  What the walk of an unbounded run keeps; which inputs are valid; what Streams and Trace answer.
-/
import Derived.Test.YtckgpflobhpnpaaQStD
namespace Go.Proofs.Ytckgpflobhpnpaa
open Go.RowKit
set_option linter.unusedVariables false
set_option linter.unusedSimpArgs false
structure It (c : Ci) (u : Uf) : Prop where
 ps : ∀ p, p < c.procs.length → pm (a6 c p) (u.s p)
 fv : ∀ n, n < c.chans.length → ∀ i, i < (u.l n).length → dM ((u.l n).getD i 0) (gF c n).w
 rd : ∀ n, n < c.chans.length → u.rd n ≤ (u.l n).length
section
variable {c : Ci} {u v : Uf} {p n k : Nat} {f : Fi} {inp : List (List Int)}
theorem rR (hc : a8 c) (h : It c u) (hp : p < c.procs.length) : yC (a6 c p) (tF c u p) where
 l := by rw [tF, au]
 v := fun i hi hh => by
  rw [tF, aH hi] at hh ⊢
  unfold G7 at hh ⊢
  split
  ·rename_i h0
   obtain ⟨k1, k2, k3, k4⟩ := hc.tk p hp i hi
   have := h.fv (nq (a6 c p) i) (by show (oB (a6 c p) i).chan.toNat < _; omega) _ h0
   rw [k3] at this
   exact this
  ·rename_i h0; rw [if_neg h0] at hh; cases hh
theorem xB (hc : a8 c) (hp : p < c.procs.length) : (gG c p f n).length ≤ 1 := by
 rw [gG, List.length_map]; exact v3 hc hp n (Nat.le_refl _)
theorem DH (hc : a8 c) (h : It c u) (hp : p < c.procs.length) (hcan : iC c u p = true) : It c (ah c u p) where
 ps := fun q hq => by
  show pm _ (if q = p then _ else u.s q)
  by_cases e : q = p
  ·rw [if_pos e, e]; exact np (hc.pr p hp) (h.ps p hp) (rR hc h hp)
  ·rw [if_neg e]; exact h.ps q hq
 fv := fun n hn i hi => by
  have hl : (ah c u p).l n = u.l n ++ gG c p (fk c u p) n := rfl
  rw [hl] at hi ⊢
  rw [pE]
  split
  ·rename_i h0; exact h.fv n hn i h0
  ·rename_i h0
   rw [List.length_append] at hi
   have hm := jv (d := (0 : Int)) (show i - (u.l n).length < (gG c p (fk c u p) n).length by omega)
   generalize (gG c p (fk c u p) n).getD _ 0 = v at hm
   unfold gG at hm
   obtain ⟨e, he, rfl⟩ := List.mem_map.1 hm
   obtain ⟨h1, h2⟩ := List.mem_filter.1 he
   rw [beq_iff_eq] at h2
   obtain ⟨j, j1, j2, j3, j4⟩ := pC h1
   have := pn (rs := Dt c p) (hc.pr p hp) (h.ps p hp) (rR hc h hp) j1 j2
   rw [← (hc.pt p hp j j1).2.2.1, j3, h2] at this
   rw [← j4]; exact this
 rd := fun n hn => by
  show u.rd n + i9 c p (fk c u p) n ≤ (u.l n ++ gG c p (fk c u p) n).length
  rw [List.length_append]
  have h0 := h.rd n hn
  unfold i9
  split
  ·rename_i hm
   obtain ⟨j, j1, j2, j3⟩ := mr hm
   unfold iC fk at hcan
   rw [oh] at hcan
   have := Aj hcan j1 j2
   rw [tF, aH j1] at this
   unfold G7 at this
   split at this
   ·rename_i hlt; rw [j3] at hlt; omega
   ·cases this
  ·omega
def tf (c : Ci) (n : Nat) (u : Uf) (k : Nat) : Bool := decide (u.cnt k < n) && iC c u k
def be (c : Ci) (n : Nat) (u : Uf) (k : Nat) : Fi := if u.cnt k < n then fk c u k else ⟨false, bK, [], []⟩
theorem DI (h : n ≤ u.cnt k) : be c n u k = ⟨false, bK, [], []⟩ := if_neg (by omega)
theorem we (h : u.cnt k < n) : be c n u k = fk c u k := if_pos h
theorem Az (h : n ≤ u.cnt k) : tf c n u k = false := by rw [tf, decide_eq_false (by omega)]; rfl
theorem tg (h : u.cnt k < n) : tf c n u k = iC c u k := by rw [tf, decide_eq_true h]; rfl
theorem th (h : tf c n u k = true) : u.cnt k < n ∧ iC c u k = true := by
 unfold tf at h; simpa using h
structure UI (c : Ci) (inp : List (List Int)) (n : Nat) (u : Uf) : Prop where
 run : ∃ m, jz c (u0 c inp) m ∧ u = bX c (u0 c inp) m
 cn : ∀ q, u.cnt q ≤ n
 ok : It c u
 ln : ∀ k, (u.l k).length + f7 n u.cnt c.procs.length ≤ 1000 + n * c.procs.length
theorem Iu (hc : a8 c) (h : tc c inp) : It c (u0 c inp) where
 ps := fun p hp => by
  show pm _ (if p < c.procs.length then _ else _)
  rw [if_pos hp]; exact xA (hc.pr p hp)
 fv := h.fv
 rd := fun n hn => Nat.zero_le _
theorem DJ (hc : a8 c) (h : tc c inp) (n : Nat) : UI c inp n (u0 c inp) where
 run := ⟨[], trivial, rfl⟩
 cn := fun q => Nat.zero_le _
 ok := Iu hc h
 ln := fun k => by
  have := h.sm k
  have := yX n (u0 c inp).cnt c.procs.length
  show (inp.getD k []).length + _ ≤ _
  omega
theorem pH (hp : p < c.procs.length) (h : tf c n u p = true) : f7 n (ah c u p).cnt c.procs.length + 1 = f7 n u.cnt c.procs.length := by
 have := pG (th h).1 c.procs.length
 rw [if_pos hp] at this
 exact this
theorem AA (hc : a8 c) (h : UI c inp n u) (hp : p < c.procs.length) (hcp : tf c n u p = true) : UI c inp n (ah c u p) where
 run := by
  obtain ⟨m, h1, h2⟩ := h.run
  refine ⟨m ++ [p], pF h1 ⟨hp, by rw [← h2]; exact (th hcp).2, trivial⟩, by rw [jA, ← h2]; rfl⟩
 cn := fun q => by
  show (if q = p then u.cnt q + 1 else u.cnt q) ≤ n
  have := h.cn q
  have := (th hcp).1
  split
  ·rename_i e; rw [e]; omega
  ·omega
 ok := DH hc h.ok hp (th hcp).2
 ln := fun k => by
  have h1 := h.ln k
  have h2 := pH hp hcp
  have h3 := xB (f := fk c u p) (n := k) hc hp
  show (u.l k ++ gG c p (fk c u p) k).length + _ ≤ _
  rw [List.length_append]
  omega
theorem DK (h : UI c inp n u) (k : Nat) : (u.l k).length ≤ 1000 + n * c.procs.length := by have := h.ln k; omega
theorem Hf (hc : a8 c) (h : UI c inp n u) (he : ∀ p, p < c.procs.length → tf c n u p = false) : u = df c inp n := by
 obtain ⟨m, h1, h2⟩ := h.run
 have hcn : ∀ q, u.cnt q = m.count q := fun q => by rw [h2, f6]; show 0 + _ = _; omega
 rw [h2]
 refine Hb hc ⟨h1, fun q => by rw [← hcn]; exact h.cn q, fun p hp hcan => ?_⟩
 rw [← h2] at hcan
 have := he p hp
 rw [← hcn]
 refine Nat.le_of_not_lt fun hlt => ?_
 rw [tg hlt, hcan] at this
 cases this
abbrev bM (c : Ci) (u : Uf) : List (List Int) := tab u.l c.chans.length
abbrev iz (c : Ci) (u : Uf) : List Ps := tab u.s c.procs.length
abbrev jf (c : Ci) (u : Uf) : List Int := tab (fun m => (u.rd m : Int)) c.chans.length
abbrev cZ (c : Ci) (u : Uf) : List Int := tab (fun q => (u.cnt q : Int)) c.procs.length
theorem Hg (hp : p < c.procs.length) : (iz c u).set p (fk c u p).s = iz c (ah c u p) := by
 refine dq (d := bK) (by simp [au]) (fun i hi => ?_)
 rw [List.length_set, au] at hi
 rw [cI (by rw [au]; exact hp), aH hi, aH hi]
 show _ = (if i = p then _ else u.s i)
 by_cases e : p = i
 ·rw [if_pos e, if_pos e.symm]
 ·rw [if_neg e, if_neg (fun q => e q.symm)]
theorem DL (hp : p < c.procs.length) : (cZ c u).set p ((u.cnt p : Int) + 1) = cZ c (ah c u p) := by
 refine dq (d := (0 : Int)) (by simp [au]) (fun i hi => ?_)
 rw [List.length_set, au] at hi
 rw [cI (by rw [au]; exact hp), aH hi, aH hi]
 show _ = (((if i = p then u.cnt i + 1 else u.cnt i : Nat)) : Int)
 by_cases e : p = i
 ·rw [if_pos e, if_pos e.symm, ← e]; simp
 ·rw [if_neg e, if_neg (fun q => e q.symm)]
def jB (l : List Int) (ev : List Nat) : List Int := ev.foldl (fun l n => l.set n (l.getD n 0 + 1)) l
theorem qz (ev : List Nat) : ∀ (l : List Int), (jB l ev).length = l.length := by
 induction ev with
 | nil => intro l; rfl
 | cons a r ih => intro l; rw [jB, List.foldl_cons]; exact (ih _).trans (List.length_set ..)
theorem y1 (l : List Int) (ev : List Nat) (n : Nat) : jB l (ev ++ [n]) = (jB l ev).set n ((jB l ev).getD n 0 + 1) := by simp [jB, List.foldl_append]
theorem uW (ev : List Nat) : ∀ (l : List Int) (n : Nat), n < l.length → (jB l ev).getD n 0 = l.getD n 0 + (ev.count n : Int) := by
 induction ev with
 | nil => intro l n hn; show l.getD n 0 = _; simp
 | cons a r ih =>
  intro l n hn
  rw [jB, List.foldl_cons]
  refine (ih _ n (by rw [List.length_set]; exact hn)).trans ?_
  rw [List.count_cons]
  by_cases e : a = n
  ·subst e; rw [cI hn, if_pos rfl]; simp; omega
  ·rw [show (l.set a (l.getD a 0 + 1)).getD n 0 = l.getD n 0 by simp [List.getD, List.getElem?_set, e]]
   have : (a == n) = false := beq_eq_false_iff_ne.2 e
   rw [this]; simp
theorem Hh (hc : a8 c) (hp : p < c.procs.length) : jB (jf c u) (kK (a6 c p) (fk c u p) (a6 c p).takes.length) = jf c (ah c u p) := by
 refine dq (d := (0 : Int)) (by rw [qz, au, au]) (fun i hi => ?_)
 rw [qz, au] at hi
 rw [uW _ _ _ (by rw [au]; exact hi), aH hi, aH hi, ju hc i hp (Nat.le_refl _)]
 show _ = ((u.rd i + i9 c p (fk c u p) i : Nat) : Int)
 unfold i9
 split <;> simp
theorem Iv (hc : a8 c) (hp : p < c.procs.length) (hk : k ≤ (a6 c p).takes.length) (hn : n < c.chans.length) : 0 ≤ (jB (jf c u) (kK (a6 c p) f k)).getD n 0 ∧ (jB (jf c u) (kK (a6 c p) f k)).getD n 0 ≤ u.rd n + 1 := by
 rw [uW _ _ _ (by rw [au]; exact hn), aH hn, ju hc n hp hk]
 split <;> constructor <;> simp <;> omega
theorem DM (hc : a8 c) (hp : p < c.procs.length) : bv (bM c u) (mm (a6 c p) (fk c u p) (a6 c p).puts.length) = bM c (ah c u p) := by
 refine dq (d := []) (by rw [cR, au, au]) (fun i hi => ?_)
 rw [cR, au] at hi
 rw [lu _ _ _ (by rw [au]; exact hi), aH hi, aH hi]
 rfl
theorem Ga (hn : n < c.chans.length) : ((bv (bM c u) (mm (a6 c p) f k)).getD n []).length ≤ (u.l n).length + k := by
 have h1 := Ar (mm (a6 c p) f k) (bM c u) n (by rw [au]; exact hn)
 rw [aH hn] at h1
 exact Nat.le_trans h1 (Nat.add_le_add_left rN _)
def tH (c : Ci) (inp : List (List Int)) (n : Nat) : Bool := decide ((inp.getD n []).length ≤ 1000) && ((decide ((inp.getD n []).length = 0) || decide ((gF c n).frm = -1)) && xq (inp.getD n []) (gF c n).w)
def dA (c : Ci) (inp : List (List Int)) : Bool := decide (inp.length = c.chans.length) && dP (tH c inp) c.chans.length
theorem dR : dA c inp = true ↔ tc c inp := by
 unfold dA tH
 simp only [Bool.and_eq_true, decide_eq_true_eq, c9, Bool.or_eq_true, Db]
 constructor
 ·rintro ⟨h1, h2⟩
  refine ⟨h1, fun n hn hf => ?_, fun n hn => (h2 n hn).2.2, fun n => ?_⟩
  ·rcases (h2 n hn).2.1 with h | h
   ·exact List.eq_nil_of_length_eq_zero h
   ·exact absurd h hf
  ·by_cases hn : n < c.chans.length
   ·exact (h2 n hn).1
   ·rw [List.getD_eq_getElem?_getD, List.getElem?_eq_none (by omega)]; simp
 ·rintro ⟨h1, h2, h3, h4⟩
  refine ⟨h1, fun n hn => ⟨h4 n, ?_, h3 n hn⟩⟩
  by_cases hf : (gF c n).frm = -1
  ·exact .inr hf
  ·exact .inl (by rw [h2 n hn hf]; rfl)
def ef (c : Ci) (inp : List (List Int)) (n : Int) : List (List Int) × List Int × Int := if dA c inp = true ∧ 0 ≤ n ∧ n ≤ 100 then (bM c (df c inp n.toNat), cZ c (df c inp n.toNat), 0) else ([], [], 1)
theorem pI {k : Int} (h : ¬(dA c inp = true ∧ 0 ≤ k ∧ k ≤ 100)) : ef c inp k = ([], [], 1) := if_neg h
theorem lF {k : Int} (h : dA c inp = true) (h2 : 0 ≤ k ∧ k ≤ 100) : ef c inp k = (bM c (df c inp k.toNat), cZ c (df c inp k.toNat), 0) := if_pos ⟨h, h2⟩
def y2 (c : Ci) (inp : List (List Int)) (cls : List ByteArray) : Uf := bX c (u0 c inp) (gk c (Eh c inp) (cls.map (ba c)))
def gl (c : Ci) (inp : List (List Int)) (cls : List ByteArray) : List (List Int) × List Int × Int := if dA c inp = true ∧ cls.length ≤ 100 then (bM c (y2 c inp cls), cZ c (y2 c inp cls), 0) else ([], [], 1)
theorem rS {cls : List ByteArray} (h : ¬(dA c inp = true ∧ cls.length ≤ 100)) : gl c inp cls = ([], [], 1) := if_neg h
theorem lG {cls : List ByteArray} (h : dA c inp = true) (h2 : cls.length ≤ 100) : gl c inp cls = (bM c (y2 c inp cls), cZ c (y2 c inp cls), 0) := if_pos ⟨h, h2⟩
end
section
variable {a b : List (List Int)} {i : Nat} {c : Ci} {n : Nat} {inp : List (List Int)}
theorem mC (h : ¬a.length = b.length) : aV a b = false := by rw [aV, decide_eq_false h]; rfl
theorem mD (hi : i < a.length) (h : bO (a.getD i []) (b.getD i []) < (a.getD i []).length) : aV a b = false := by
 rw [aV, vU hi (by rw [decide_eq_true h]; rfl), Bool.and_false]
theorem mE (h : a.length = b.length) (h2 : ∀ q, q < a.length → (!decide (bO (a.getD q []) (b.getD q []) < (a.getD q []).length)) = true) : aV a b = true := by
 rw [aV, decide_eq_true h, c9.2 h2]; rfl
theorem Hi (hi : i < min a.length b.length) (h : ¬bO (a.getD i []) (b.getD i []) < min (a.getD i []).length (b.getD i []).length) : rn a b (min a.length b.length - i) i = rn a b (min a.length b.length - (i + 1)) (i + 1) := by
 rw [show min a.length b.length - i = min a.length b.length - (i + 1) + 1 by omega, rn, if_neg h]
theorem AB (hi : i < min a.length b.length) (h : bO (a.getD i []) (b.getD i []) < min (a.getD i []).length (b.getD i []).length) : rn a b (min a.length b.length - i) i = ((i : Int), (bO (a.getD i []) (b.getD i []) : Int), true) := by
 rw [show min a.length b.length - i = min a.length b.length - (i + 1) + 1 by omega, rn, if_pos h]
theorem AC (hi : min a.length b.length ≤ i) : rn a b (min a.length b.length - i) i = (0, 0, false) := by
 rw [show min a.length b.length - i = 0 by omega]; rfl
theorem Gb (h1 : (inp.getD n []).length ≤ 1000) (h2 : (inp.getD n []).length = 0 ∨ (gF c n).frm = -1) (h3 : (!decide (0 ≤ rm (inp.getD n []) (gF c n).w)) = true) : tH c inp n = true := by
 rw [uS] at h3
 unfold tH
 rw [h3, decide_eq_true h1, Bool.and_true, Bool.true_and]
 rcases h2 with h2 | h2
 ·rw [decide_eq_true h2, Bool.true_or]
 ·rw [decide_eq_true h2, Bool.or_true]
theorem mG (h : ¬inp.length = c.chans.length) : dA c inp = false := by rw [dA, decide_eq_false h]; rfl
theorem y3 (hn : n < c.chans.length) (h : tH c inp n = false) : dA c inp = false := by rw [dA, vU hn h, Bool.and_false]
theorem mH (hn : n < c.chans.length) (h : ¬(inp.getD n []).length ≤ 1000) : dA c inp = false := y3 hn (by unfold tH; rw [decide_eq_false h]; rfl)
theorem mI (hn : n < c.chans.length) (h : ¬(inp.getD n []).length = 0) (h2 : ¬(gF c n).frm = -1) : dA c inp = false := y3 hn (by unfold tH; rw [decide_eq_false h, decide_eq_false h2]; simp)
theorem mJ (hn : n < c.chans.length) (h : decide (0 ≤ rm (inp.getD n []) (gF c n).w) = true) : dA c inp = false := y3 hn (by unfold tH; rw [← uS, h]; simp)
theorem mK (h : inp.length = c.chans.length) (h2 : ∀ z, z < c.chans.length → tH c inp z = true) : dA c inp = true := by rw [dA, decide_eq_true h, c9.2 h2]; rfl
end
end Go.Proofs.Ytckgpflobhpnpaa
