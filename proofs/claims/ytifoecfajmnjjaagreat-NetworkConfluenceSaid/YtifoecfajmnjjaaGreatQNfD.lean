/-
  The laws of networks, plain data: if firing ends, all firings end there, and so do ticks.
-/
import Derived.Test.YtifoecfajmnjjaaGreatQNeV
namespace Go.Proofs.YtifoecfajmnjjaaGreat
open Go.RowKit
set_option linter.unusedVariables false
set_option linter.unusedSimpArgs false
theorem Jc {sh : Int} {b : List Int} {p : Nat} (hb : iz b) (hp : p < (aa sh b).procs.length) : aj (aa sh b) (bs [97]) p = true ∨ aj (aa sh b) (bs [98]) p = true := by
 have lp : (aa sh b).procs.length = (av sh).length := aN _ _
 have gp : aB (aa sh b) p = uj b (av sh) p := bf (by omega)
 unfold aj
 rw [gp]
 show (((J8 (b.getD _ 0)).toList == _) = true) ∨ (((J8 (b.getD _ 0)).toList == _) = true)
 generalize b.getD _ 0 = y
 have : (y % 2).toNat = 0 ∨ (y % 2).toNat = 1 := by omega
 unfold J8
 rcases this with h | h
 ·left; rw [h]; exact beq_self_eq_true _
 ·right; rw [h]; exact beq_self_eq_true _
def iX (f : Nat → Int) : Nat → Int
 | 0 => 0
 | p + 1 => iX f p + f p
theorem BX (f g : Nat → Int) : ∀ n, iX (fun p => f p + g p) n = iX f n + iX g n
 | 0 => rfl
 | n + 1 => by rw [iX, BX f g n, iX, iX]; omega
theorem kX {f g : Nat → Int} : ∀ {n : Nat}, (∀ p, p < n → f p = g p) → iX f n = iX g n
 | 0, _ => rfl
 | n + 1, h => by rw [iX, kX (fun p hp => h p (by omega)), h n (by omega), iX]
theorem ut : ∀ n, iX (fun _ => 0) n = 0
 | 0 => rfl
 | n + 1 => by rw [iX, ut n]; rfl
theorem BZ {q : Nat} : ∀ {n : Nat}, q < n → iX (fun p => if q = p then 1 else 0) n = 1
 | 0, h => absurd h (Nat.not_lt_zero _)
 | n + 1, h => by
  rw [iX]
  by_cases e : q = n
  ·rw [if_pos e, kX (g := fun _ => 0) (fun p hp => if_neg (by omega)), ut]; rfl
  ·rw [if_neg e, BZ (by omega)]; rfl
theorem yJ {n : Nat} : ∀ {l : List Nat}, (∀ q ∈ l, q < n) → iX (fun p => (l.count p : Nat)) n = (l.length : Nat)
 | [], _ => by rw [kX (g := fun _ => 0) (fun p _ => by simp), ut]; rfl
 | q :: r, h => by
  have ih := yJ (l := r) (fun x hx => h x (List.mem_cons_of_mem _ hx))
  rw [kX (g := fun p => ((r.count p : Nat) : Int) + (if q = p then 1 else 0)) (fun p _ => by rw [List.count_cons]; by_cases e : q = p <;> simp [e]), BX, ih, BZ (h q (by simp)), List.length_cons]
  omega
theorem Ap {f : Nat → Int} (h0 : ∀ p, 0 ≤ f p) : ∀ {m n : Nat}, m ≤ n → iX f m ≤ iX f n
 | m, 0, h => by rw [show m = 0 by omega]; exact Int.le_refl _
 | m, n + 1, h => by
  by_cases e : m = n + 1
  ·rw [e]; exact Int.le_refl _
  ·have := Ap h0 (m := m) (n := n) (by omega)
   have := h0 n
   rw [iX]; omega
theorem xo {f : Nat → Int} (h0 : ∀ p, 0 ≤ f p) : ∀ n, 0 ≤ iX f n
 | 0 => Int.le_refl _
 | n + 1 => by have := xo h0 n; have := h0 n; rw [iX]; omega
section
variable {c : Ci} {s e : Ns}
theorem yK : ∀ {l : List Nat} {s : Ns}, C5 c s l → ∀ q ∈ l, q < c.procs.length
 | [], _, _, q, hq => by cases hq
 | p :: r, s, h, q, hq => by
  rcases List.mem_cons.1 hq with e | e
  ·rw [e]; exact h.1
  ·exact yK h.2.2 q e
def KI (c : Ci) (l0 : List Nat) (e t : Ns) (n : List Int) : Prop := n.length = c.procs.length ∧ ∃ l, mS c t l e ∧ l.length ≤ l0.length ∧ ∀ q, q < c.procs.length → 0 ≤ n.getD q 0 ∧ n.getD q 0 + (l.count q : Nat) = (l0.count q : Nat)
theorem GI {l0 : List Nat} (h : mS c s l0 e) : KI c l0 e s (List.replicate c.procs.length 0) :=
 ⟨List.length_replicate, l0, h, Nat.le_refl _, fun q hq => by simp [List.getD, hq]⟩
theorem L5 {l0 : List Nat} {t : Ns} {n : List Int} (ht : bN c t) {p : Nat} (hp : p < c.procs.length) (h : KI c l0 e t n) (hn : bp c t (p : Int) = false) : KI c l0 e (ak c t (bz (p : Int))) n := by
 rw [dZ hp] at hn
 rw [fx, sx ht (fun q hq => by
  unfold ai
  by_cases e : q = p
  ·rw [e, hn, Bool.and_false]
  ·rw [i4 e]; rfl)]
 exact h
theorem Kh (hc : bo c) {l0 : List Nat} {t : Ns} {n : List Int} {p : Nat} (hp : p < c.procs.length) (h : KI c l0 e t n) (hn : bp c t (p : Int) = true) : KI c l0 e (ak c t (bz (p : Int))) (n.set p (n.getD p 0 + 1)) := by
 rw [dZ hp] at hn
 rw [fx]
 obtain ⟨h1, l, h2, h3, h4⟩ := h
 obtain ⟨l', g1, g2, g3⟩ := l7 hc h2 hp hn
 refine ⟨by simpa using h1, l', g1, by omega, fun q hq => ?_⟩
 rw [b6 (by omega)]
 have := h4 q hq
 have h5 := g3 q
 by_cases e : p = q
 ·subst e; rw [if_pos rfl] at h5 ⊢; omega
 ·rw [if_neg e] at h5 ⊢; omega
theorem L6 {l0 : List Nat} {t : Ns} {n : List Int} (h : KI c l0 e t n) (p : Nat) : 0 ≤ n.getD p 0 ∧ n.getD p 0 ≤ (l0.length : Nat) := by
 obtain ⟨h1, l, h2, h3, h4⟩ := h
 by_cases hp : p < c.procs.length
 ·have := h4 p hp
  have := List.count_le_length (a := p) (l := l0)
  omega
 ·rw [List.getD, List.getElem?_eq_none (by omega)]; simp
def uu (c : Ci) : Nat → Ns → List Nat
 | 0, _ => []
 | n + 1, s => if a8 c s < 0 then [] else (a8 c s).toNat :: uu c n (ak c s (b4 (a8 c s).toNat))
theorem B1 : ∀ {n : Nat} {s : Ns} {cnt : List Int}, (bU c n s cnt).2.2 = 0 → (uu c n s).length ≤ n ∧ mS c s (uu c n s) (bU c n s cnt).1 := by
 intro n
 induction n with
 | zero =>
  intro s cnt h
  by_cases hf : a8 c s < 0
  ·rw [fv hf]
   rcases gW c s with ⟨h1, h2⟩ | ⟨p, h1, _⟩
   ·exact ⟨Nat.le_refl _, trivial, rfl, h2⟩
   ·omega
  ·rw [fT hf] at h; cases h
 | succ n ih =>
  intro s cnt h
  by_cases hf : a8 c s < 0
  ·rw [fv hf, uu, if_pos hf]
   rcases gW c s with ⟨h1, h2⟩ | ⟨p, h1, _⟩
   ·exact ⟨Nat.zero_le _, trivial, rfl, h2⟩
   ·omega
  ·rw [pI hf] at h ⊢
   rw [uu, if_neg hf]
   rcases gW c s with ⟨h1, h2⟩ | ⟨p, h1, hp, hcan⟩
   ·omega
   ·rw [h1] at h ⊢
    rw [Int.toNat_natCast] at h ⊢
    obtain ⟨g1, g2, g3, g4⟩ := ih (s := ak c s (b4 p)) h
    exact ⟨by simp only [List.length_cons]; omega, ⟨hp, hcan, g2⟩, g3, g4⟩
def s8 (c : Ci) (s : Ns) : List Nat := uu c 40 s
theorem L7 (hc : bo c) (h : (aD c s 40).2.2 = 0) : (s8 c s).length ≤ 40 ∧ mS c s (s8 c s) (aD c s 40).1 ∧ (aD c s 40).2.1.length = c.procs.length ∧ ∀ q, q < c.procs.length → (aD c s 40).2.1.getD q 0 = ((s8 c s).count q : Nat) := by
 obtain ⟨h1, h2⟩ := B1 (c := c) (s := s) (n := 40) (cnt := List.replicate c.procs.length 0) h
 obtain ⟨_, _, h3, h4⟩ := (pJ hc 40 h2 (cnt := List.replicate c.procs.length 0) List.length_replicate).1 h1
 refine ⟨h1, h2, h3, fun q hq => ?_⟩
 have := h4 q hq
 rw [show (List.replicate c.procs.length (0 : Int)).getD q 0 = 0 by simp [List.getD, hq]] at this
 unfold aD s8
 show (bU c 40 s _).2.1.getD q 0 = _
 omega
theorem Fy (hc : bo c) {l0 : List Nat} {t : Ns} {n : List Int} (h : KI c l0 e t n) (h40 : l0.length ≤ 40) : (aD c t 40).1 = e ∧ (aD c t 40).2.2 = 0 ∧ (aD c t 40).2.1.length = c.procs.length ∧ ∀ q, q < c.procs.length → n.getD q 0 + (aD c t 40).2.1.getD q 0 = (l0.count q : Nat) := by
 obtain ⟨h1, l, h2, h3, h4⟩ := h
 obtain ⟨g1, g2, g3, g4⟩ := (pJ hc 40 h2 (cnt := List.replicate c.procs.length 0) List.length_replicate).1 (by omega)
 refine ⟨g1, g2, g3, fun q hq => ?_⟩
 have := g4 q hq
 rw [show (List.replicate c.procs.length (0 : Int)).getD q 0 = 0 by simp [List.getD, hq]] at this
 have := h4 q hq
 show _ + (bU c 40 t _).2.1.getD q 0 = _
 omega
theorem vL (hc : bo c) {l0 : List Nat} (h : mS c s l0 e) {b : Int} (hb : (l0.length : Nat) ≤ b) : (aD c s b).2.2 = 0 :=
 ((pJ hc b.toNat h (cnt := List.replicate c.procs.length 0) List.length_replicate).1 (by omega)).2.1
theorem B2 (hc : bo c) {l0 : List Nat} (h : mS c s l0 e) {b : Int} (h0 : 0 ≤ b) (hb : b < (l0.length : Nat)) : (aD c s b).2.2 = 7 :=
 (pJ hc b.toNat h (cnt := List.replicate c.procs.length 0) List.length_replicate).2 (by omega)
theorem GJ (b : Int) : (aD c s b).2.2 = 0 ∨ (aD c s b).2.2 = 7 := by
 have : ∀ (n : Nat) (s : Ns) (cnt : List Int), (bU c n s cnt).2.2 = 0 ∨ (bU c n s cnt).2.2 = 7 := by
  intro n
  induction n with
  | zero => intro s cnt; rw [bU]; split <;> simp
  | succ n ih =>
   intro s cnt; rw [bU]; split
   ·simp
   ·exact ih _ _
 exact this _ _ _
def dg : Nat → List ByteArray
 | 0 => []
 | n + 1 => dg n ++ [bs [97], bs [98]]
theorem kY : ∀ n, (dg n).length = 2 * n
 | 0 => rfl
 | n + 1 => by rw [dg, List.length_append, kY n]; simp only [List.length_cons, List.length_nil]; omega
theorem Ki (l : List ByteArray) (x y : ByteArray) : bD c s (l ++ [x, y]) = ak c (ak c (bD c s l) (aj c x)) (aj c y) := by
 unfold bD; rw [List.foldl_append]; rfl
theorem FA (hc : bo c) (hs : bN c s) (hab : ∀ p, p < c.procs.length → aj c (bs [97]) p = true ∨ aj c (bs [98]) p = true) {l0 : List Nat} (h : mS c s l0 e) : ∀ n, bN c (bD c s (dg n)) ∧ ∃ l, mS c (bD c s (dg n)) l e ∧ l.length ≤ l0.length - n
 | 0 => ⟨hs, l0, h, by omega⟩
 | n + 1 => by
  obtain ⟨h1, l, h2, h3⟩ := FA hc hs hab h n
  rw [dg, Ki]
  have n1 := aW hc h1 (aj c (bs [97]))
  refine ⟨aW hc n1 _, ?_⟩
  obtain ⟨l1, a1, a2, a3⟩ := Bj hc h1 h2 (aj c (bs [97]))
  obtain ⟨l2, b1, b2, b3⟩ := Bj hc n1 a1 (aj c (bs [98]))
  refine ⟨l2, b1, ?_⟩
  cases hl : l with
  | nil => subst hl; simp only [List.length_nil] at a2; omega
  | cons p r =>
   rw [hl] at h2
   have hp := h2.1.1
   have hcan := h2.1.2.1
   rw [hl, List.length_cons] at a2 a3 h3
   by_cases ha : aj c (bs [97]) p = true
   ·have := a3 ⟨p, hp, by unfold ai; rw [ha, hcan]; rfl⟩
    omega
   ·have hb := (hab p hp).resolve_left ha
    have := b3 ⟨p, hp, by unfold ai; rw [hb, pH hc hp hcan (by simpa using ha)]; rfl⟩
    omega
theorem FB (hc : bo c) (hs : bN c s) (hab : ∀ p, p < c.procs.length → aj c (bs [97]) p = true ∨ aj c (bs [98]) p = true) {l0 : List Nat} (h : mS c s l0 e) {n : Nat} (hn : l0.length ≤ n) : bD c s (dg n) = e := by
 obtain ⟨_, l, h2, h3⟩ := FA hc hs hab h n
 have : l = [] := by
  cases l with
  | nil => rfl
  | cons a b => rw [List.length_cons] at h3; omega
 subst this
 exact h2.2.1
theorem Jd {l0 : List Nat} (h : mS c s l0 e) {f : Nat → Int} (hf : ∀ q, q < c.procs.length → f q = (l0.count q : Nat)) : iX f c.procs.length = (l0.length : Nat) := by
 rw [kX hf]; exact yJ (yK h.1)
theorem Je (hc : bo c) : ∀ {l : List Nat} {s : Ns}, bN c s → bN c (Ga c s l)
 | [], _, h => h
 | _ :: r, _, h => Je hc (l := r) (aW hc h _)
theorem Jf (hc : bo c) : ∀ {l : List Nat} {s : Ns} {k : Nat}, fY s k → fY (Ga c s l) (k + l.length)
 | [], _, _, h => h
 | p :: r, s, k, h => by
  have := Jf hc (l := r) (s := ak c s (b4 p)) (a6 hc h)
  rw [show k + (p :: r : List Nat).length = k + 1 + r.length by simp only [List.length_cons]; omega]; exact this
theorem L8 (hc : bo c) (hs : bN c s) {l0 : List Nat} (h : mS c s l0 e) : bN c e := h.2.1 ▸ Je hc hs
theorem L9 (hc : bo c) {k : Nat} (hm : fY s k) {l0 : List Nat} (h : mS c s l0 e) : fY e (k + l0.length) := h.2.1 ▸ Jf hc hm
def DN (c : Ci) (s : Ns) (q : Nat) : Int := (aD c s 40).2.1.getD q 0
theorem Jg {l : List Nat} (hl : (aD c s 40).2.1.length = c.procs.length) (h : ∀ q, q < c.procs.length → (aD c s 40).2.1.getD q 0 = (l.count q : Nat)) (q : Nat) : 0 ≤ DN c s q := by
 unfold DN
 by_cases hq : q < c.procs.length
 ·rw [h q hq]; omega
 ·rw [List.getD, List.getElem?_eq_none (by omega)]; simp
end
end Go.Proofs.YtifoecfajmnjjaaGreat
