/-
  Unbounded runs of circuits: whatever fires first, it can be completed to the same.
-/
import Derived.Test.YtckgpflobhpnpaaQNeC
namespace Go.Proofs.Ytckgpflobhpnpaa
open Go.RowKit
set_option linter.unusedVariables false
set_option linter.unusedSimpArgs false
structure Uf where
 s : Nat → Ps
 l : Nat → List Int
 rd : Nat → Nat
 cnt : Nat → Nat
def G7 (c : Ci) (u : Uf) (p j : Nat) : Hd := if u.rd (nq (a6 c p) j) < (u.l (nq (a6 c p) j)).length then ⟨true, (u.l (nq (a6 c p) j)).getD (u.rd (nq (a6 c p) j)) 0⟩ else aK
def tF (c : Ci) (u : Uf) (p : Nat) : List Hd := tab (G7 c u p) (a6 c p).takes.length
def Dt (c : Ci) (p : Nat) : List Bool := List.replicate (a6 c p).puts.length true
def fk (c : Ci) (u : Uf) (p : Nat) : Fi := aG (a6 c p) (u.s p) (tF c u p) (Dt c p)
def i9 (c : Ci) (p : Nat) (f : Fi) (n : Nat) : Nat := if n ∈ kK (a6 c p) f (a6 c p).takes.length then 1 else 0
def gG (c : Ci) (p : Nat) (f : Fi) (n : Nat) : List Int := ((mm (a6 c p) f (a6 c p).puts.length).filter (fun e => e.1 == n)).map (·.2)
def iC (c : Ci) (u : Uf) (p : Nat) : Bool := (fk c u p).fires
def ah (c : Ci) (u : Uf) (p : Nat) : Uf := ⟨fun q => if q = p then (fk c u p).s else u.s q, fun n => u.l n ++ gG c p (fk c u p) n, fun n => u.rd n + i9 c p (fk c u p) n, fun q => if q = p then u.cnt q + 1 else u.cnt q⟩
section
variable {c : Ci} {u v : Uf} {p q n : Nat}
theorem Du (hc : a8 c) (hp : p < c.procs.length) {f : Fi} (h : i9 c p f n ≠ 0) : (gF c n).dst = p := by
 unfold i9 at h
 split at h
 ·rename_i hm; exact (rL hc hp (Nat.le_refl _) hm).2
 ·exact absurd rfl h
theorem ta (hc : a8 c) (hp : p < c.procs.length) {f : Fi} (h : gG c p f n ≠ []) : (gF c n).frm = p := by
 unfold gG at h
 obtain ⟨x, hx⟩ := List.exists_mem_of_ne_nil _ h
 obtain ⟨e, he, _⟩ := List.mem_map.1 hx
 obtain ⟨h1, h2⟩ := List.mem_filter.1 he
 have := (Ai hc hp (Nat.le_refl _) h1).2
 rw [beq_iff_eq] at h2
 rw [← h2]; exact this
theorem tb (hc : a8 c) (hp : p < c.procs.length) (hq : q < c.procs.length) (hpq : p ≠ q) (h : iC c u q = true) : fk c (ah c u p) q = fk c u q := by
 unfold iC fk at h
 rw [oh] at h
 unfold fk
 have hs : (ah c u p).s q = u.s q := if_neg (Ne.symm hpq)
 rw [hs]
 refine mt (hc.pr q hq) h (fun j hj hh => ?_) (fun j hj hr => hr)
 unfold tF at hh ⊢
 rw [aH hj] at hh ⊢
 rw [aH hj]
 have hd : (gF c (nq (a6 c q) j)).dst = q := (hc.tk q hq j hj).2.2.2
 have hrd : (ah c u p).rd (nq (a6 c q) j) = u.rd (nq (a6 c q) j) := by
  show u.rd _ + i9 c p _ _ = _
  by_cases h0 : i9 c p (fk c u p) (nq (a6 c q) j) = 0
  ·rw [h0]; rfl
  ·have := Du hc hp h0
   rw [hd] at this; omega
 unfold G7 at hh ⊢
 rw [hrd]
 split at hh
 ·rename_i hlt
  rw [if_pos hlt]
  have hl : (ah c u p).l (nq (a6 c q) j) = u.l (nq (a6 c q) j) ++ gG c p (fk c u p) (nq (a6 c q) j) := rfl
  rw [hl, if_pos (by rw [List.length_append]; omega), pE, if_pos hlt]
 ·cases hh
theorem xy (hc : a8 c) (hp : p < c.procs.length) (hq : q < c.procs.length) (hpq : p ≠ q) (h : iC c u q = true) : iC c (ah c u p) q = true := by
 unfold iC at h ⊢
 rw [tb hc hp hq hpq h]; exact h
theorem G8 (h1 : ∀ q, u.s q = v.s q) (h2 : ∀ n, u.l n = v.l n) (h3 : ∀ n, u.rd n = v.rd n) (h4 : ∀ q, u.cnt q = v.cnt q) : u = v := by
 cases u; cases v
 simp only at h1 h2 h3 h4
 rw [funext h1, funext h2, funext h3, funext h4]
theorem Kq (hc : a8 c) (hp : p < c.procs.length) (hq : q < c.procs.length) (hpq : p ≠ q) (h1 : iC c u p = true) (h2 : iC c u q = true) : ah c (ah c u p) q = ah c (ah c u q) p := by
 have e1 := tb hc hp hq hpq h2
 have e2 := tb hc hq hp (Ne.symm hpq) h1
 have f1 : ah c (ah c u p) q = ⟨fun x => if x = q then (fk c u q).s else (ah c u p).s x, fun n => (ah c u p).l n ++ gG c q (fk c u q) n, fun n => (ah c u p).rd n + i9 c q (fk c u q) n, fun x => if x = q then (ah c u p).cnt x + 1 else (ah c u p).cnt x⟩ := by rw [ah, e1]
 have f2 : ah c (ah c u q) p = ⟨fun x => if x = p then (fk c u p).s else (ah c u q).s x, fun n => (ah c u q).l n ++ gG c p (fk c u p) n, fun n => (ah c u q).rd n + i9 c p (fk c u p) n, fun x => if x = p then (ah c u q).cnt x + 1 else (ah c u q).cnt x⟩ := by rw [ah, e2]
 rw [f1, f2]
 refine G8 (fun x => ?_) (fun n => ?_) (fun n => ?_) (fun x => ?_)
 ·show (if x = q then _ else if x = p then _ else u.s x) = (if x = p then _ else if x = q then _ else u.s x)
  by_cases a : x = q
  ·rw [if_pos a, if_neg (by omega), if_pos a]
  ·rw [if_neg a]
   by_cases b : x = p
   ·rw [if_pos b, if_pos b]
   ·rw [if_neg b, if_neg b, if_neg a]
 ·show (u.l n ++ gG c p (fk c u p) n) ++ gG c q (fk c u q) n = (u.l n ++ gG c q (fk c u q) n) ++ gG c p (fk c u p) n
  by_cases a : gG c p (fk c u p) n = []
  ·rw [a]; simp
  ·have b : gG c q (fk c u q) n = [] := by
    refine Classical.byContradiction fun h => ?_
    have := ta hc hp a
    have := ta hc hq h
    omega
   rw [b]; simp
 ·show (u.rd n + i9 c p (fk c u p) n) + i9 c q (fk c u q) n = (u.rd n + i9 c q (fk c u q) n) + i9 c p (fk c u p) n
  omega
 ·show (if x = q then (if x = p then u.cnt x + 1 else u.cnt x) + 1 else if x = p then u.cnt x + 1 else u.cnt x) = (if x = p then (if x = q then u.cnt x + 1 else u.cnt x) + 1 else if x = q then u.cnt x + 1 else u.cnt x)
  by_cases a : x = q
  ·have b : ¬x = p := by omega
   simp only [if_pos a, if_neg b]
  ·simp only [if_neg a]
def bX (c : Ci) : Uf → List Nat → Uf
 | u, [] => u
 | u, p :: r => bX c (ah c u p) r
def jz (c : Ci) : Uf → List Nat → Prop
 | _, [] => True
 | u, p :: r => p < c.procs.length ∧ iC c u p = true ∧ jz c (ah c u p) r
theorem jA : ∀ {l m : List Nat} {u : Uf}, bX c u (l ++ m) = bX c (bX c u l) m
 | [], _, _ => rfl
 | p :: r, m, u => jA (l := r) (u := ah c u p)
theorem pF : ∀ {l m : List Nat} {u : Uf}, jz c u l → jz c (bX c u l) m → jz c u (l ++ m)
 | [], _, _, _, h => h
 | p :: r, m, u, h1, h2 => ⟨h1.1, h1.2.1, pF (l := r) h1.2.2 h2⟩
theorem f6 : ∀ {l : List Nat} {u : Uf} (q : Nat), (bX c u l).cnt q = u.cnt q + l.count q
 | [], _, _ => rfl
 | p :: r, u, q => by
  rw [bX, f6 (l := r) q, List.count_cons]
  show (if q = p then u.cnt q + 1 else u.cnt q) + _ = _
  by_cases h : q = p
  ·rw [if_pos h, h]; simp; omega
  ·rw [if_neg h]
   have : (p == q) = false := beq_eq_false_iff_ne.2 (fun e => h e.symm)
   rw [this]; simp
theorem Dv (hc : a8 c) : ∀ {l : List Nat} {u : Uf}, jz c u l → ∀ {p : Nat}, p < c.procs.length → iC c u p = true →
  ∃ m, jz c (ah c u p) m ∧ ((p ∈ l ∧ (∀ x, m.count x = l.count x - (if x = p then 1 else 0)) ∧ bX c (ah c u p) m = bX c u l) ∨
   (p ∉ l ∧ (∀ x, m.count x = l.count x) ∧ iC c (bX c u l) p = true ∧ bX c (ah c u p) m = ah c (bX c u l) p))
 | [], u, _, p, hp, hcan => ⟨[], trivial, .inr ⟨by simp, fun _ => rfl, hcan, rfl⟩⟩
 | q :: r, u, ⟨hq, hcq, hr⟩, p, hp, hcan => by
  by_cases hpq : p = q
  ·subst hpq
   refine ⟨r, hr, .inl ⟨List.mem_cons_self, fun x => ?_, rfl⟩⟩
   rw [List.count_cons]
   by_cases h : x = p
   ·rw [if_pos h, h]; simp
   ·have : (p == x) = false := beq_eq_false_iff_ne.2 (fun e => h e.symm)
    rw [if_neg h, this]; simp
  ·obtain ⟨m, h1, h2⟩ := Dv hc (l := r) hr hp (xy hc hq hp (Ne.symm hpq) hcan)
   have hd := Kq hc hp hq hpq hcan hcq
   refine ⟨q :: m, ⟨hq, xy hc hp hq hpq hcq, by rw [hd]; exact h1⟩, ?_⟩
   have e : bX c (ah c u p) (q :: m) = bX c (ah c (ah c u q) p) m := by rw [bX, hd]
   rcases h2 with ⟨a, b, d⟩ | ⟨a, b, d, f⟩
   ·refine .inl ⟨List.mem_cons_of_mem _ a, fun x => ?_, by rw [e]; exact d⟩
    rw [List.count_cons, List.count_cons, b x]
    by_cases h : x = p
    ·have h0 : 0 < r.count x := by rw [h]; exact List.count_pos_iff.2 a
     rw [if_pos h]; omega
    ·rw [if_neg h]; omega
   ·refine .inr ⟨fun hm => ?_, fun x => by rw [List.count_cons, List.count_cons, b x], d, by rw [e]; exact f⟩
    rcases List.mem_cons.1 hm with h | h
    ·exact hpq h
    ·exact a h
theorem J1 (hc : a8 c) : ∀ {l m : List Nat} {u : Uf}, jz c u l → jz c u m →
  ∃ l' m', jz c (bX c u l) m' ∧ jz c (bX c u m) l' ∧ bX c (bX c u l) m' = bX c (bX c u m) l' ∧ (∀ x, m'.count x = m.count x - l.count x) ∧ ∀ x, l'.count x = l.count x - m.count x
 | [], m, u, _, hm => ⟨[], m, hm, trivial, rfl, fun x => by simp, fun x => by simp⟩
 | p :: r, m, u, ⟨hp, hcan, hr⟩, hm => by
  obtain ⟨m1, h1, h2⟩ := Dv hc hm hp hcan
  obtain ⟨l1, m', a1, a2, a3, a4, a5⟩ := J1 hc (l := r) (m := m1) hr h1
  have hcp : ∀ x, (p :: r).count x = r.count x + (if x = p then 1 else 0) := fun x => by
   rw [List.count_cons]
   by_cases h : x = p
   ·rw [if_pos h, h]; simp
   ·have : (p == x) = false := beq_eq_false_iff_ne.2 (fun e => h e.symm)
    rw [if_neg h, this]; simp
  rcases h2 with ⟨b1, b2, b3⟩ | ⟨b1, b2, b3, b4⟩
  ·refine ⟨l1, m', a1, by rw [← b3]; exact a2, by rw [bX, a3, b3], fun x => ?_, fun x => ?_⟩
   ·rw [a4, b2, hcp]; omega
   ·rw [a5, b2, hcp]
    by_cases h : x = p
    ·have h0 : 0 < m.count x := by rw [h]; exact List.count_pos_iff.2 b1
     rw [if_pos h]; omega
    ·rw [if_neg h]; omega
  ·have h0 : m.count p = 0 := List.count_eq_zero.2 b1
   refine ⟨p :: l1, m', a1, ⟨hp, b3, by rw [← b4]; exact a2⟩, ?_, fun x => ?_, fun x => ?_⟩
   ·show bX c (bX c (ah c u p) r) m' = bX c (ah c (bX c u m) p) l1
    rw [a3, b4]
   ·rw [a4, b2, hcp]
    by_cases h : x = p
    ·rw [if_pos h, h]; omega
    ·rw [if_neg h]; omega
   ·rw [List.count_cons, a5, b2, hcp]
    by_cases h : x = p
    ·rw [if_pos h, h]; simp; omega
    ·have : (p == x) = false := beq_eq_false_iff_ne.2 (fun e => h e.symm)
     rw [if_neg h, this]; simp
structure Ip (c : Ci) (n : Nat) (u : Uf) (l : List Nat) : Prop where
 can : jz c u l
 le : ∀ p, l.count p ≤ n
 stop : ∀ p, p < c.procs.length → iC c (bX c u l) p = true → n ≤ l.count p
theorem wb {l : List Nat} (h : ∀ x, l.count x = 0) : l = [] := by
 cases l with
 | nil => rfl
 | cons a r => have := h a; rw [List.count_cons] at this; simp at this
theorem Dw (hc : a8 c) {l m : List Nat} (h : Ip c n u l) (hm : jz c u m) (hle : ∀ p, m.count p ≤ n) : ∃ l', jz c (bX c u m) l' ∧ bX c (bX c u m) l' = bX c u l ∧ ∀ p, m.count p ≤ l.count p := by
 obtain ⟨l', m', a1, a2, a3, a4, a5⟩ := J1 hc h.can hm
 have hnil : m' = [] := by
  cases m' with
  | nil => rfl
  | cons p r =>
   exfalso
   have h1 := a4 p
   rw [List.count_cons] at h1
   have h2 := h.stop p a1.1 a1.2.1
   have h3 := hle p
   simp at h1
   omega
 subst hnil
 refine ⟨l', a2, a3.symm, fun p => ?_⟩
 have := a4 p
 simp at this
 omega
theorem Iq (hc : a8 c) {l m : List Nat} (h : Ip c n u l) (k : Ip c n u m) : bX c u l = bX c u m ∧ ∀ p, l.count p = m.count p := by
 obtain ⟨l', a1, a2, a3⟩ := Dw hc h k.can k.le
 obtain ⟨m', b1, b2, b3⟩ := Dw hc k h.can h.le
 have hcnt : ∀ p, l.count p = m.count p := fun p => Nat.le_antisymm (b3 p) (a3 p)
 have hnil : l' = [] := by
  refine wb fun x => ?_
  have h1 := f6 (c := c) (l := l') (u := bX c u m) x
  rw [a2, f6, f6, hcnt x] at h1
  omega
 subst hnil
 exact ⟨a2.symm, hcnt⟩
end
end Go.Proofs.Ytckgpflobhpnpaa
