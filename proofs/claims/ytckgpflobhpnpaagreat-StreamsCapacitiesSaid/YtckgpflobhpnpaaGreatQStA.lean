/-
  Unbounded runs of circuits: whatever fires first, it can be completed to the same.
-/
import Derived.Test.YtckgpflobhpnpaaGreatQNeC
namespace Go.Proofs.YtckgpflobhpnpaaGreat
open Go.RowKit
set_option linter.unusedVariables false
set_option linter.unusedSimpArgs false
structure Uf where
 s : Nat → Ps
 l : Nat → List Int
 rd : Nat → Nat
 cnt : Nat → Nat
def Jn (c : Ci) (u : Uf) (p j : Nat) : Hd := if u.rd (jG (a8 c p) j) < (u.l (jG (a8 c p) j)).length then ⟨true, (u.l (jG (a8 c p) j)).getD (u.rd (jG (a8 c p) j)) 0⟩ else aO
def uZ (c : Ci) (u : Uf) (p : Nat) : List Hd := tab (Jn c u p) (a8 c p).takes.length
def Eb (c : Ci) (p : Nat) : List Bool := List.replicate (a8 c p).puts.length true
def fc (c : Ci) (u : Uf) (p : Nat) : Fi := aI (a8 c p) (u.s p) (uZ c u p) (Eb c p)
def ie (c : Ci) (p : Nat) (f : Fi) (n : Nat) : Nat := if n ∈ lH (a8 c p) f (a8 c p).takes.length then 1 else 0
def gg (c : Ci) (p : Nat) (f : Fi) (n : Nat) : List Int := ((nr (a8 c p) f (a8 c p).puts.length).filter (fun e => e.1 == n)).map (·.2)
def gV (c : Ci) (u : Uf) (p : Nat) : Bool := (fc c u p).fires
def ak (c : Ci) (u : Uf) (p : Nat) : Uf := ⟨fun q => if q = p then (fc c u p).s else u.s q, fun n => u.l n ++ gg c p (fc c u p) n, fun n => u.rd n + ie c p (fc c u p) n, fun q => if q = p then u.cnt q + 1 else u.cnt q⟩
section
variable {c : Ci} {u v : Uf} {p q n : Nat}
theorem zw (hc : aZ c) (hp : p < c.procs.length) {f : Fi} (h : ie c p f n ≠ 0) : (cr c n).dst = p := by
 unfold ie at h
 split at h
 ·rename_i hm; exact (tA hc hp (Nat.le_refl _) hm).2
 ·exact absurd rfl h
theorem qQ (hc : aZ c) (hp : p < c.procs.length) {f : Fi} (h : gg c p f n ≠ []) : (cr c n).frm = p := by
 unfold gg at h
 obtain ⟨x, hx⟩ := List.exists_mem_of_ne_nil _ h
 obtain ⟨e, he, _⟩ := List.mem_map.1 hx
 obtain ⟨h1, h2⟩ := List.mem_filter.1 he
 have := (Cv hc hp (Nat.le_refl _) h1).2
 rw [beq_iff_eq] at h2
 rw [← h2]; exact this
theorem u1 (hc : aZ c) (hp : p < c.procs.length) (hq : q < c.procs.length) (hpq : p ≠ q) (h : gV c u q = true) : fc c (ak c u p) q = fc c u q := by
 unfold gV fc at h
 rw [iJ] at h
 unfold fc
 have hs : (ak c u p).s q = u.s q := if_neg (Ne.symm hpq)
 rw [hs]
 refine jW (hc.pr q hq) h (fun j hj hh => ?_) (fun j hj hr => hr)
 unfold uZ at hh ⊢
 rw [az hj] at hh ⊢
 rw [az hj]
 have hd : (cr c (jG (a8 c q) j)).dst = q := (hc.tk q hq j hj).2.2.2
 have hrd : (ak c u p).rd (jG (a8 c q) j) = u.rd (jG (a8 c q) j) := by
  show u.rd _ + ie c p _ _ = _
  by_cases h0 : ie c p (fc c u p) (jG (a8 c q) j) = 0
  ·rw [h0]; rfl
  ·have := zw hc hp h0
   rw [hd] at this; omega
 unfold Jn at hh ⊢
 rw [hrd]
 split at hh
 ·rename_i hlt
  rw [if_pos hlt]
  have hl : (ak c u p).l (jG (a8 c q) j) = u.l (jG (a8 c q) j) ++ gg c p (fc c u p) (jG (a8 c q) j) := rfl
  rw [hl, if_pos (by rw [List.length_append]; omega), mA, if_pos hlt]
 ·cases hh
theorem zx (hc : aZ c) (hp : p < c.procs.length) (hq : q < c.procs.length) (hpq : p ≠ q) (h : gV c u q = true) : gV c (ak c u p) q = true := by
 unfold gV at h ⊢
 rw [u1 hc hp hq hpq h]; exact h
theorem KD (h1 : ∀ q, u.s q = v.s q) (h2 : ∀ n, u.l n = v.l n) (h3 : ∀ n, u.rd n = v.rd n) (h4 : ∀ q, u.cnt q = v.cnt q) : u = v := by
 cases u; cases v
 simp only at h1 h2 h3 h4
 rw [funext h1, funext h2, funext h3, funext h4]
theorem OA (hc : aZ c) (hp : p < c.procs.length) (hq : q < c.procs.length) (hpq : p ≠ q) (h1 : gV c u p = true) (h2 : gV c u q = true) : ak c (ak c u p) q = ak c (ak c u q) p := by
 have e1 := u1 hc hp hq hpq h2
 have e2 := u1 hc hq hp (Ne.symm hpq) h1
 have f1 : ak c (ak c u p) q = ⟨fun x => if x = q then (fc c u q).s else (ak c u p).s x, fun n => (ak c u p).l n ++ gg c q (fc c u q) n, fun n => (ak c u p).rd n + ie c q (fc c u q) n, fun x => if x = q then (ak c u p).cnt x + 1 else (ak c u p).cnt x⟩ := by rw [ak, e1]
 have f2 : ak c (ak c u q) p = ⟨fun x => if x = p then (fc c u p).s else (ak c u q).s x, fun n => (ak c u q).l n ++ gg c p (fc c u p) n, fun n => (ak c u q).rd n + ie c p (fc c u p) n, fun x => if x = p then (ak c u q).cnt x + 1 else (ak c u q).cnt x⟩ := by rw [ak, e2]
 rw [f1, f2]
 refine KD (fun x => ?_) (fun n => ?_) (fun n => ?_) (fun x => ?_)
 ·show (if x = q then _ else if x = p then _ else u.s x) = (if x = p then _ else if x = q then _ else u.s x)
  by_cases a : x = q
  ·rw [if_pos a, if_neg (by omega), if_pos a]
  ·rw [if_neg a]
   by_cases b : x = p
   ·rw [if_pos b, if_pos b]
   ·rw [if_neg b, if_neg b, if_neg a]
 ·show (u.l n ++ gg c p (fc c u p) n) ++ gg c q (fc c u q) n = (u.l n ++ gg c q (fc c u q) n) ++ gg c p (fc c u p) n
  by_cases a : gg c p (fc c u p) n = []
  ·rw [a]; simp
  ·have b : gg c q (fc c u q) n = [] := by
    refine Classical.byContradiction fun h => ?_
    have := qQ hc hp a
    have := qQ hc hq h
    omega
   rw [b]; simp
 ·show (u.rd n + ie c p (fc c u p) n) + ie c q (fc c u q) n = (u.rd n + ie c q (fc c u q) n) + ie c p (fc c u p) n
  omega
 ·show (if x = q then (if x = p then u.cnt x + 1 else u.cnt x) + 1 else if x = p then u.cnt x + 1 else u.cnt x) = (if x = p then (if x = q then u.cnt x + 1 else u.cnt x) + 1 else if x = q then u.cnt x + 1 else u.cnt x)
  by_cases a : x = q
  ·have b : ¬x = p := by omega
   simp only [if_pos a, if_neg b]
  ·simp only [if_neg a]
def bc (c : Ci) : Uf → List Nat → Uf
 | u, [] => u
 | u, p :: r => bc c (ak c u p) r
def dW (c : Ci) : Uf → List Nat → Prop
 | _, [] => True
 | u, p :: r => p < c.procs.length ∧ gV c u p = true ∧ dW c (ak c u p) r
theorem gE : ∀ {l m : List Nat} {u : Uf}, bc c u (l ++ m) = bc c (bc c u l) m
 | [], _, _ => rfl
 | p :: r, m, u => gE (l := r) (u := ak c u p)
theorem j6 : ∀ {l m : List Nat} {u : Uf}, dW c u l → dW c (bc c u l) m → dW c u (l ++ m)
 | [], _, _, _, h => h
 | p :: r, m, u, h1, h2 => ⟨h1.1, h1.2.1, j6 (l := r) h1.2.2 h2⟩
theorem ft : ∀ {l : List Nat} {u : Uf} (q : Nat), (bc c u l).cnt q = u.cnt q + l.count q
 | [], _, _ => rfl
 | p :: r, u, q => by
  rw [bc, ft (l := r) q, List.count_cons]
  show (if q = p then u.cnt q + 1 else u.cnt q) + _ = _
  by_cases h : q = p
  ·rw [if_pos h, h]; simp; omega
  ·rw [if_neg h]
   have : (p == q) = false := beq_eq_false_iff_ne.2 (fun e => h e.symm)
   rw [this]; simp
theorem u2 (n : Nat) : ∀ {l : List Nat} {u : Uf}, u.l n <+: (bc c u l).l n
 | [], _ => List.prefix_refl _
 | p :: r, u => (List.prefix_append (u.l n) _).trans (u2 n (l := r) (u := ak c u p))
theorem Gj (hc : aZ c) : ∀ {l : List Nat} {u : Uf}, dW c u l → ∀ {p : Nat}, p < c.procs.length → gV c u p = true →
  ∃ m, dW c (ak c u p) m ∧ ((p ∈ l ∧ (∀ x, m.count x = l.count x - (if x = p then 1 else 0)) ∧ bc c (ak c u p) m = bc c u l) ∨
   (p ∉ l ∧ (∀ x, m.count x = l.count x) ∧ gV c (bc c u l) p = true ∧ bc c (ak c u p) m = ak c (bc c u l) p))
 | [], u, _, p, hp, hcan => ⟨[], trivial, .inr ⟨by simp, fun _ => rfl, hcan, rfl⟩⟩
 | q :: r, u, ⟨hq, hcq, hr⟩, p, hp, hcan => by
  by_cases hpq : p = q
  ·subst hpq
   refine ⟨r, hr, .inl ⟨List.mem_cons_self, fun x => ?_, rfl⟩⟩
   rw [List.count_cons]
   by_cases h : x = p
   ·rw [if_pos h, h]; simp
   ·have : (p == x) = false := beq_eq_false_iff_ne.2 (fun e => h e.symm)
    rw [if_neg h, this]; simp
  ·obtain ⟨m, h1, h2⟩ := Gj hc (l := r) hr hp (zx hc hq hp (Ne.symm hpq) hcan)
   have hd := OA hc hp hq hpq hcan hcq
   refine ⟨q :: m, ⟨hq, zx hc hp hq hpq hcq, by rw [hd]; exact h1⟩, ?_⟩
   have e : bc c (ak c u p) (q :: m) = bc c (ak c (ak c u q) p) m := by rw [bc, hd]
   rcases h2 with ⟨a, b, d⟩ | ⟨a, b, d, f⟩
   ·refine .inl ⟨List.mem_cons_of_mem _ a, fun x => ?_, by rw [e]; exact d⟩
    rw [List.count_cons, List.count_cons, b x]
    by_cases h : x = p
    ·have h0 : 0 < r.count x := by rw [h]; exact List.count_pos_iff.2 a
     rw [if_pos h]; omega
    ·rw [if_neg h]; omega
   ·refine .inr ⟨fun hm => ?_, fun x => by rw [List.count_cons, List.count_cons, b x], d, by rw [e]; exact f⟩
    rcases List.mem_cons.1 hm with h | h
    ·exact hpq h
    ·exact a h
theorem NL (hc : aZ c) : ∀ {l m : List Nat} {u : Uf}, dW c u l → dW c u m →
  ∃ l' m', dW c (bc c u l) m' ∧ dW c (bc c u m) l' ∧ bc c (bc c u l) m' = bc c (bc c u m) l' ∧ (∀ x, m'.count x = m.count x - l.count x) ∧ ∀ x, l'.count x = l.count x - m.count x
 | [], m, u, _, hm => ⟨[], m, hm, trivial, rfl, fun x => by simp, fun x => by simp⟩
 | p :: r, m, u, ⟨hp, hcan, hr⟩, hm => by
  obtain ⟨m1, h1, h2⟩ := Gj hc hm hp hcan
  obtain ⟨l1, m', a1, a2, a3, a4, a5⟩ := NL hc (l := r) (m := m1) hr h1
  have hcp : ∀ x, (p :: r).count x = r.count x + (if x = p then 1 else 0) := fun x => by
   rw [List.count_cons]
   by_cases h : x = p
   ·rw [if_pos h, h]; simp
   ·have : (p == x) = false := beq_eq_false_iff_ne.2 (fun e => h e.symm)
    rw [if_neg h, this]; simp
  rcases h2 with ⟨b1, b2, b3⟩ | ⟨b1, b2, b3, b4⟩
  ·refine ⟨l1, m', a1, by rw [← b3]; exact a2, by rw [bc, a3, b3], fun x => ?_, fun x => ?_⟩
   ·rw [a4, b2, hcp]; omega
   ·rw [a5, b2, hcp]
    by_cases h : x = p
    ·have h0 : 0 < m.count x := by rw [h]; exact List.count_pos_iff.2 b1
     rw [if_pos h]; omega
    ·rw [if_neg h]; omega
  ·have h0 : m.count p = 0 := List.count_eq_zero.2 b1
   refine ⟨p :: l1, m', a1, ⟨hp, b3, by rw [← b4]; exact a2⟩, ?_, fun x => ?_, fun x => ?_⟩
   ·show bc c (bc c (ak c u p) r) m' = bc c (ak c (bc c u m) p) l1
    rw [a3, b4]
   ·rw [a4, b2, hcp]
    by_cases h : x = p
    ·rw [if_pos h, h]; omega
    ·rw [if_neg h]; omega
   ·rw [List.count_cons, a5, b2, hcp]
    by_cases h : x = p
    ·rw [if_pos h, h]; simp; omega
    ·have : (p == x) = false := beq_eq_false_iff_ne.2 (fun e => h e.symm)
     rw [if_neg h, this]; simp
structure Ma (c : Ci) (n : Nat) (u : Uf) (l : List Nat) : Prop where
 can : dW c u l
 le : ∀ p, l.count p ≤ n
 stop : ∀ p, p < c.procs.length → gV c (bc c u l) p = true → n ≤ l.count p
theorem qR {l : List Nat} (h : ∀ x, l.count x = 0) : l = [] := by
 cases l with
 | nil => rfl
 | cons a r => have := h a; rw [List.count_cons] at this; simp at this
theorem Gk (hc : aZ c) {l m : List Nat} (h : Ma c n u l) (hm : dW c u m) (hle : ∀ p, m.count p ≤ n) : ∃ l', dW c (bc c u m) l' ∧ bc c (bc c u m) l' = bc c u l ∧ ∀ p, m.count p ≤ l.count p := by
 obtain ⟨l', m', a1, a2, a3, a4, a5⟩ := NL hc h.can hm
 have hnil : m' = [] := by
  cases m' with
  | nil => rfl
  | cons p r =>
   exfalso
   have h1 := a4 p
   rw [List.count_cons] at h1
   have h2 := h.stop p a1.1 a1.2.1
   have h3 := hle p
   simp at h1
   omega
 subst hnil
 refine ⟨l', a2, a3.symm, fun p => ?_⟩
 have := a4 p
 simp at this
 omega
theorem Mb (hc : aZ c) {l m : List Nat} (h : Ma c n u l) (k : Ma c n u m) : bc c u l = bc c u m ∧ ∀ p, l.count p = m.count p := by
 obtain ⟨l', a1, a2, a3⟩ := Gk hc h k.can k.le
 obtain ⟨m', b1, b2, b3⟩ := Gk hc k h.can h.le
 have hcnt : ∀ p, l.count p = m.count p := fun p => Nat.le_antisymm (b3 p) (a3 p)
 have hnil : l' = [] := by
  refine qR fun x => ?_
  have h1 := ft (c := c) (l := l') (u := bc c u m) x
  rw [a2, ft, ft, hcnt x] at h1
  omega
 subst hnil
 exact ⟨a2.symm, hcnt⟩
end
end Go.Proofs.YtckgpflobhpnpaaGreat
