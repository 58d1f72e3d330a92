/-
  Unbounded runs of circuits: whatever fires first, it can be completed to the same.
-/
import Derived.Test.YtckgpflobhpnpaaQNeC
namespace Go.Proofs.Ytckgpflobhpnpaa
open Go.RowKit
set_option linter.unusedVariables false
set_option linter.unusedSimpArgs false
structure Uf where
 s : Nat → Ps
 l : Nat → List Int
 rd : Nat → Nat
 cnt : Nat → Nat
def Jr (c : Ci) (u : Uf) (p j : Nat) : Hd := if u.rd (mA (be c p) j) < (u.l (mA (be c p) j)).length then ⟨true, (u.l (mA (be c p) j)).getD (u.rd (mA (be c p) j)) 0⟩ else aP
def u3 (c : Ci) (u : Uf) (p : Nat) : List Hd := tab (Jr c u p) (be c p).takes.length
def Gi (c : Ci) (p : Nat) : List Bool := List.replicate (be c p).puts.length true
def ew (c : Ci) (u : Uf) (p : Nat) : Fi := aL (be c p) (u.s p) (u3 c u p) (Gi c p)
def i7 (c : Ci) (p : Nat) (f : Fi) (n : Nat) : Nat := if n ∈ lN (be c p) f (be c p).takes.length then 1 else 0
def fq (c : Ci) (p : Nat) (f : Fi) (n : Nat) : List Int := ((ny (be c p) f (be c p).puts.length).filter (fun e => e.1 == n)).map (·.2)
def gF (c : Ci) (u : Uf) (p : Nat) : Bool := (ew c u p).fires
def am (c : Ci) (u : Uf) (p : Nat) : Uf := ⟨fun q => if q = p then (ew c u p).s else u.s q, fun n => u.l n ++ fq c p (ew c u p) n, fun n => u.rd n + i7 c p (ew c u p) n, fun q => if q = p then u.cnt q + 1 else u.cnt q⟩
section
variable {c : Ci} {u v : Uf} {p q n : Nat}
theorem Gj (hc : a6 c) (hp : p < c.procs.length) {f : Fi} (h : i7 c p f n ≠ 0) : (eO c n).dst = p := by
 unfold i7 at h
 split at h
 ·rename_i hm; exact (tA hc hp (Nat.le_refl _) hm).2
 ·exact absurd rfl h
theorem qQ (hc : a6 c) (hp : p < c.procs.length) {f : Fi} (h : fq c p f n ≠ []) : (eO c n).frm = p := by
 unfold fq at h
 obtain ⟨x, hx⟩ := List.exists_mem_of_ne_nil _ h
 obtain ⟨e, he, _⟩ := List.mem_map.1 hx
 obtain ⟨h1, h2⟩ := List.mem_filter.1 he
 have := (CH hc hp (Nat.le_refl _) h1).2
 rw [beq_iff_eq] at h2
 rw [← h2]; exact this
theorem u4 (hc : a6 c) (hp : p < c.procs.length) (hq : q < c.procs.length) (hpq : p ≠ q) (h : gF c u q = true) : ew c (am c u p) q = ew c u q := by
 unfold gF ew at h
 rw [kM] at h
 unfold ew
 have hs : (am c u p).s q = u.s q := if_neg (Ne.symm hpq)
 rw [hs]
 refine jU (hc.pr q hq) h (fun j hj hh => ?_) (fun j hj hr => hr)
 unfold u3 at hh ⊢
 rw [aB hj] at hh ⊢
 rw [aB hj]
 have hd : (eO c (mA (be c q) j)).dst = q := (hc.tk q hq j hj).2.2.2
 have hrd : (am c u p).rd (mA (be c q) j) = u.rd (mA (be c q) j) := by
  show u.rd _ + i7 c p _ _ = _
  by_cases h0 : i7 c p (ew c u p) (mA (be c q) j) = 0
  ·rw [h0]; rfl
  ·have := Gj hc hp h0
   rw [hd] at this; omega
 unfold Jr at hh ⊢
 rw [hrd]
 split at hh
 ·rename_i hlt
  rw [if_pos hlt]
  have hl : (am c u p).l (mA (be c q) j) = u.l (mA (be c q) j) ++ fq c p (ew c u p) (mA (be c q) j) := rfl
  rw [hl, if_pos (by rw [List.length_append]; omega), jV, if_pos hlt]
 ·cases hh
theorem zB (hc : a6 c) (hp : p < c.procs.length) (hq : q < c.procs.length) (hpq : p ≠ q) (h : gF c u q = true) : gF c (am c u p) q = true := by
 unfold gF at h ⊢
 rw [u4 hc hp hq hpq h]; exact h
theorem Bg (h1 : ∀ q, u.s q = v.s q) (h2 : ∀ n, u.l n = v.l n) (h3 : ∀ n, u.rd n = v.rd n) (h4 : ∀ q, u.cnt q = v.cnt q) : u = v := by
 cases u; cases v
 simp only at h1 h2 h3 h4
 rw [funext h1, funext h2, funext h3, funext h4]
theorem Oh (hc : a6 c) (hp : p < c.procs.length) (hq : q < c.procs.length) (hpq : p ≠ q) (h1 : gF c u p = true) (h2 : gF c u q = true) : am c (am c u p) q = am c (am c u q) p := by
 have e1 := u4 hc hp hq hpq h2
 have e2 := u4 hc hq hp (Ne.symm hpq) h1
 have f1 : am c (am c u p) q = ⟨fun x => if x = q then (ew c u q).s else (am c u p).s x, fun n => (am c u p).l n ++ fq c q (ew c u q) n, fun n => (am c u p).rd n + i7 c q (ew c u q) n, fun x => if x = q then (am c u p).cnt x + 1 else (am c u p).cnt x⟩ := by rw [am, e1]
 have f2 : am c (am c u q) p = ⟨fun x => if x = p then (ew c u p).s else (am c u q).s x, fun n => (am c u q).l n ++ fq c p (ew c u p) n, fun n => (am c u q).rd n + i7 c p (ew c u p) n, fun x => if x = p then (am c u q).cnt x + 1 else (am c u q).cnt x⟩ := by rw [am, e2]
 rw [f1, f2]
 refine Bg (fun x => ?_) (fun n => ?_) (fun n => ?_) (fun x => ?_)
 ·show (if x = q then _ else if x = p then _ else u.s x) = (if x = p then _ else if x = q then _ else u.s x)
  by_cases a : x = q
  ·rw [if_pos a, if_neg (by omega), if_pos a]
  ·rw [if_neg a]
   by_cases b : x = p
   ·rw [if_pos b, if_pos b]
   ·rw [if_neg b, if_neg b, if_neg a]
 ·show (u.l n ++ fq c p (ew c u p) n) ++ fq c q (ew c u q) n = (u.l n ++ fq c q (ew c u q) n) ++ fq c p (ew c u p) n
  by_cases a : fq c p (ew c u p) n = []
  ·rw [a]; simp
  ·have b : fq c q (ew c u q) n = [] := by
    refine Classical.byContradiction fun h => ?_
    have := qQ hc hp a
    have := qQ hc hq h
    omega
   rw [b]; simp
 ·show (u.rd n + i7 c p (ew c u p) n) + i7 c q (ew c u q) n = (u.rd n + i7 c q (ew c u q) n) + i7 c p (ew c u p) n
  omega
 ·show (if x = q then (if x = p then u.cnt x + 1 else u.cnt x) + 1 else if x = p then u.cnt x + 1 else u.cnt x) = (if x = p then (if x = q then u.cnt x + 1 else u.cnt x) + 1 else if x = q then u.cnt x + 1 else u.cnt x)
  by_cases a : x = q
  ·have b : ¬x = p := by omega
   simp only [if_pos a, if_neg b]
  ·simp only [if_neg a]
def bP (c : Ci) : Uf → List Nat → Uf
 | u, [] => u
 | u, p :: r => bP c (am c u p) r
def hU (c : Ci) : Uf → List Nat → Prop
 | _, [] => True
 | u, p :: r => p < c.procs.length ∧ gF c u p = true ∧ hU c (am c u p) r
theorem iM : ∀ {l m : List Nat} {u : Uf}, bP c u (l ++ m) = bP c (bP c u l) m
 | [], _, _ => rfl
 | p :: r, m, u => iM (l := r) (u := am c u p)
theorem qR : ∀ {l m : List Nat} {u : Uf}, hU c u l → hU c (bP c u l) m → hU c u (l ++ m)
 | [], _, _, _, h => h
 | p :: r, m, u, h1, h2 => ⟨h1.1, h1.2.1, qR (l := r) h1.2.2 h2⟩
theorem dY : ∀ {l : List Nat} {u : Uf} (q : Nat), (bP c u l).cnt q = u.cnt q + l.count q
 | [], _, _ => rfl
 | p :: r, u, q => by
  rw [bP, dY (l := r) q, List.count_cons]
  show (if q = p then u.cnt q + 1 else u.cnt q) + _ = _
  by_cases h : q = p
  ·rw [if_pos h, h]; simp; omega
  ·rw [if_neg h]
   have : (p == q) = false := beq_eq_false_iff_ne.2 (fun e => h e.symm)
   rw [this]; simp
theorem qS (n : Nat) : ∀ {l : List Nat} {u : Uf}, u.l n <+: (bP c u l).l n
 | [], _ => List.prefix_refl _
 | p :: r, u => (List.prefix_append (u.l n) _).trans (qS n (l := r) (u := am c u p))
theorem Gk (hc : a6 c) : ∀ {l : List Nat} {u : Uf}, hU c u l → ∀ {p : Nat}, p < c.procs.length → gF c u p = true →
  ∃ m, hU c (am c u p) m ∧ ((p ∈ l ∧ (∀ x, m.count x = l.count x - (if x = p then 1 else 0)) ∧ bP c (am c u p) m = bP c u l) ∨
   (p ∉ l ∧ (∀ x, m.count x = l.count x) ∧ gF c (bP c u l) p = true ∧ bP c (am c u p) m = am c (bP c u l) p))
 | [], u, _, p, hp, hcan => ⟨[], trivial, .inr ⟨by simp, fun _ => rfl, hcan, rfl⟩⟩
 | q :: r, u, ⟨hq, hcq, hr⟩, p, hp, hcan => by
  by_cases hpq : p = q
  ·subst hpq
   refine ⟨r, hr, .inl ⟨List.mem_cons_self, fun x => ?_, rfl⟩⟩
   rw [List.count_cons]
   by_cases h : x = p
   ·rw [if_pos h, h]; simp
   ·have : (p == x) = false := beq_eq_false_iff_ne.2 (fun e => h e.symm)
    rw [if_neg h, this]; simp
  ·obtain ⟨m, h1, h2⟩ := Gk hc (l := r) hr hp (zB hc hq hp (Ne.symm hpq) hcan)
   have hd := Oh hc hp hq hpq hcan hcq
   refine ⟨q :: m, ⟨hq, zB hc hp hq hpq hcq, by rw [hd]; exact h1⟩, ?_⟩
   have e : bP c (am c u p) (q :: m) = bP c (am c (am c u q) p) m := by rw [bP, hd]
   rcases h2 with ⟨a, b, d⟩ | ⟨a, b, d, f⟩
   ·refine .inl ⟨List.mem_cons_of_mem _ a, fun x => ?_, by rw [e]; exact d⟩
    rw [List.count_cons, List.count_cons, b x]
    by_cases h : x = p
    ·have h0 : 0 < r.count x := by rw [h]; exact List.count_pos_iff.2 a
     rw [if_pos h]; omega
    ·rw [if_neg h]; omega
   ·refine .inr ⟨fun hm => ?_, fun x => by rw [List.count_cons, List.count_cons, b x], d, by rw [e]; exact f⟩
    rcases List.mem_cons.1 hm with h | h
    ·exact hpq h
    ·exact a h
theorem NQ (hc : a6 c) : ∀ {l m : List Nat} {u : Uf}, hU c u l → hU c u m →
  ∃ l' m', hU c (bP c u l) m' ∧ hU c (bP c u m) l' ∧ bP c (bP c u l) m' = bP c (bP c u m) l' ∧ (∀ x, m'.count x = m.count x - l.count x) ∧ ∀ x, l'.count x = l.count x - m.count x
 | [], m, u, _, hm => ⟨[], m, hm, trivial, rfl, fun x => by simp, fun x => by simp⟩
 | p :: r, m, u, ⟨hp, hcan, hr⟩, hm => by
  obtain ⟨m1, h1, h2⟩ := Gk hc hm hp hcan
  obtain ⟨l1, m', a1, a2, a3, a4, a5⟩ := NQ hc (l := r) (m := m1) hr h1
  have hcp : ∀ x, (p :: r).count x = r.count x + (if x = p then 1 else 0) := fun x => by
   rw [List.count_cons]
   by_cases h : x = p
   ·rw [if_pos h, h]; simp
   ·have : (p == x) = false := beq_eq_false_iff_ne.2 (fun e => h e.symm)
    rw [if_neg h, this]; simp
  rcases h2 with ⟨b1, b2, b3⟩ | ⟨b1, b2, b3, b4⟩
  ·refine ⟨l1, m', a1, by rw [← b3]; exact a2, by rw [bP, a3, b3], fun x => ?_, fun x => ?_⟩
   ·rw [a4, b2, hcp]; omega
   ·rw [a5, b2, hcp]
    by_cases h : x = p
    ·have h0 : 0 < m.count x := by rw [h]; exact List.count_pos_iff.2 b1
     rw [if_pos h]; omega
    ·rw [if_neg h]; omega
  ·have h0 : m.count p = 0 := List.count_eq_zero.2 b1
   refine ⟨p :: l1, m', a1, ⟨hp, b3, by rw [← b4]; exact a2⟩, ?_, fun x => ?_, fun x => ?_⟩
   ·show bP c (bP c (am c u p) r) m' = bP c (am c (bP c u m) p) l1
    rw [a3, b4]
   ·rw [a4, b2, hcp]
    by_cases h : x = p
    ·rw [if_pos h, h]; omega
    ·rw [if_neg h]; omega
   ·rw [List.count_cons, a5, b2, hcp]
    by_cases h : x = p
    ·rw [if_pos h, h]; simp; omega
    ·have : (p == x) = false := beq_eq_false_iff_ne.2 (fun e => h e.symm)
     rw [if_neg h, this]; simp
structure LR (c : Ci) (n : Nat) (u : Uf) (l : List Nat) : Prop where
 can : hU c u l
 le : ∀ p, l.count p ≤ n
 stop : ∀ p, p < c.procs.length → gF c (bP c u l) p = true → n ≤ l.count p
theorem xX {l : List Nat} (h : ∀ x, l.count x = 0) : l = [] := by
 cases l with
 | nil => rfl
 | cons a r => have := h a; rw [List.count_cons] at this; simp at this
theorem Bh (hc : a6 c) {l m : List Nat} (h : LR c n u l) (hm : hU c u m) (hle : ∀ p, m.count p ≤ n) : ∃ l', hU c (bP c u m) l' ∧ bP c (bP c u m) l' = bP c u l ∧ ∀ p, m.count p ≤ l.count p := by
 obtain ⟨l', m', a1, a2, a3, a4, a5⟩ := NQ hc h.can hm
 have hnil : m' = [] := by
  cases m' with
  | nil => rfl
  | cons p r =>
   exfalso
   have h1 := a4 p
   rw [List.count_cons] at h1
   have h2 := h.stop p a1.1 a1.2.1
   have h3 := hle p
   simp at h1
   omega
 subst hnil
 refine ⟨l', a2, a3.symm, fun p => ?_⟩
 have := a4 p
 simp at this
 omega
theorem LS (hc : a6 c) {l m : List Nat} (h : LR c n u l) (k : LR c n u m) : bP c u l = bP c u m ∧ ∀ p, l.count p = m.count p := by
 obtain ⟨l', a1, a2, a3⟩ := Bh hc h k.can k.le
 obtain ⟨m', b1, b2, b3⟩ := Bh hc k h.can h.le
 have hcnt : ∀ p, l.count p = m.count p := fun p => Nat.le_antisymm (b3 p) (a3 p)
 have hnil : l' = [] := by
  refine xX fun x => ?_
  have h1 := dY (c := c) (l := l') (u := bP c u m) x
  rw [a2, dY, dY, hcnt x] at h1
  omega
 subst hnil
 exact ⟨a2.symm, hcnt⟩
end
end Go.Proofs.Ytckgpflobhpnpaa
