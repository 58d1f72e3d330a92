/-
  The streams of a circuit; greater capacities, longer inputs.
-/
import Derived.Test.YtckgpflobhpnpaaQStB
import Derived.Test.YtckgpflobhpnpaaQNeQ
namespace Go.Proofs.Ytckgpflobhpnpaa
open Go.RowKit
set_option linter.unusedVariables false
set_option linter.unusedSimpArgs false
def gG (n : Nat) (cnt : Nat → Nat) : Nat → Nat
 | 0 => 0
 | P + 1 => gG n cnt P + (n - cnt P)
theorem qV {n p : Nat} {cnt : Nat → Nat} (h : cnt p < n) : ∀ P, gG n (fun q => if q = p then cnt q + 1 else cnt q) P + (if p < P then 1 else 0) = gG n cnt P
 | 0 => rfl
 | P + 1 => by
  have ih := qV (p := p) h P
  rw [gG, gG]
  by_cases e : P = p
  ·subst e
   rw [if_neg (Nat.lt_irrefl _)] at ih
   rw [if_pos (Nat.lt_succ_self _)]
   simp only [if_true]
   omega
  ·simp only [if_neg e]
   by_cases g : p < P
   ·rw [if_pos g] at ih; rw [if_pos (by omega)]; omega
   ·rw [if_neg g] at ih; rw [if_neg (by omega)]; omega
theorem Bl (n : Nat) (cnt : Nat → Nat) : ∀ P, gG n cnt P ≤ n * P
 | 0 => Nat.le_refl _
 | P + 1 => by have := Bl n cnt P; rw [gG, Nat.mul_succ]; omega
def C2 (c : Ci) (n : Nat) (u : Uf) : Option Nat := (List.range c.procs.length).find? (fun p => gF c u p && decide (u.cnt p < n))
def Hq (c : Ci) (n : Nat) : Nat → Uf → List Nat
 | 0, _ => []
 | k + 1, u => match C2 c n u with
  | some p => p :: Hq c n k (am c u p)
  | none => []
section
variable {c : Ci} {u v : Uf} {p n : Nat}
theorem El (h : C2 c n u = some p) : p < c.procs.length ∧ gF c u p = true ∧ u.cnt p < n := by
 have h1 := List.mem_of_find?_eq_some h
 have h2 := List.find?_some h
 rw [Bool.and_eq_true, decide_eq_true_eq] at h2
 exact ⟨List.mem_range.1 h1, h2.1, h2.2⟩
theorem Em (h : C2 c n u = none) : ∀ p, p < c.procs.length → gF c u p = true → n ≤ u.cnt p := by
 intro p hp hcan
 have := List.find?_eq_none.1 h p (List.mem_range.2 hp)
 rw [hcan, Bool.true_and, decide_eq_true_eq] at this
 omega
theorem Jt : ∀ (k : Nat) (u : Uf), gG n u.cnt c.procs.length ≤ k → hU c u (Hq c n k u) ∧ (∀ q, u.cnt q ≤ n → (bP c u (Hq c n k u)).cnt q ≤ n) ∧ ∀ p, p < c.procs.length → gF c (bP c u (Hq c n k u)) p = true → n ≤ (bP c u (Hq c n k u)).cnt p
 | 0, u, h => by
  refine ⟨trivial, fun q hq => hq, fun p hp _ => ?_⟩
  refine Nat.not_lt.1 fun hlt => ?_
  have hlt2 : u.cnt p < n := hlt
  have := qV hlt2 c.procs.length
  rw [if_pos hp] at this
  omega
 | k + 1, u, h => by
  rw [Hq]
  cases hk : C2 c n u with
  | none => exact ⟨trivial, fun q hq => hq, Em hk⟩
  | some p =>
   obtain ⟨h1, h2, h3⟩ := El hk
   have hr := qV h3 c.procs.length
   rw [if_pos h1] at hr
   obtain ⟨a, b, d⟩ := Jt k (am c u p) (by show gG n (fun q => if q = p then u.cnt q + 1 else u.cnt q) c.procs.length ≤ k; omega)
   refine ⟨⟨h1, h2, a⟩, fun q hq => b q ?_, d⟩
   show (if q = p then u.cnt q + 1 else u.cnt q) ≤ n
   split
   ·rename_i e; rw [e]; omega
   ·exact hq
def u0 (c : Ci) (inp : List (List Int)) : Uf := ⟨fun p => if p < c.procs.length then aQ (be c p) else bV, fun n => inp.getD n [], fun _ => 0, fun _ => 0⟩
def Bm (c : Ci) (inp : List (List Int)) (n : Nat) : List Nat := Hq c n (n * c.procs.length) (u0 c inp)
def cu (c : Ci) (inp : List (List Int)) (n : Nat) : Uf := bP c (u0 c inp) (Bm c inp n)
theorem ya (c : Ci) (inp : List (List Int)) (n : Nat) : LR c n (u0 c inp) (Bm c inp n) := by
 obtain ⟨a, b, d⟩ := Jt (c := c) (n := n) (n * c.procs.length) (u0 c inp) (Bl _ _ _)
 have hc : ∀ q, (bP c (u0 c inp) (Bm c inp n)).cnt q = (Bm c inp n).count q := fun q => by rw [dY]; show 0 + _ = _; omega
 exact ⟨a, fun q => by rw [← hc]; exact b q (Nat.zero_le _), fun p hp hcan => by rw [← hc]; exact d p hp hcan⟩
theorem C3 (c : Ci) (inp : List (List Int)) (n q : Nat) : (cu c inp n).cnt q = (Bm c inp n).count q := by
 unfold cu; rw [dY]; show 0 + _ = _; omega
theorem Kw (hc : a6 c) {inp : List (List Int)} {l : List Nat} (h : LR c n (u0 c inp) l) : bP c (u0 c inp) l = cu c inp n := (LS hc h (ya c inp n)).1
theorem wQ (hc : a6 c) {inp : List (List Int)} {m : List Nat} (hm : hU c (u0 c inp) m) (hle : ∀ p, m.count p ≤ n) : (∀ k, (bP c (u0 c inp) m).l k <+: (cu c inp n).l k) ∧ ∀ p, m.count p ≤ (cu c inp n).cnt p := by
 obtain ⟨l', a1, a2, a3⟩ := Bh hc (ya c inp n) hm hle
 refine ⟨fun k => ?_, fun p => by rw [C3]; exact a3 p⟩
 have := qS (c := c) k (l := l') (u := bP c (u0 c inp) m)
 rw [a2] at this
 exact this
structure fT (c : Ci) (inp : List (List Int)) : Prop where
 l : inp.length = c.chans.length
 ex : ∀ n, n < c.chans.length → (eO c n).frm ≠ -1 → inp.getD n [] = []
 fv : ∀ n, n < c.chans.length → ∀ i, i < (inp.getD n []).length → dt ((inp.getD n []).getD i 0) (eO c n).w
 sm : ∀ n, (inp.getD n []).length ≤ 1000
def C4 (c : Ci) (inp : List (List Int)) : Ns := ⟨(gg c).procs, inp⟩
theorem Gv (hc : a6 c) {inp : List (List Int)} (h : fT c inp) : jS c (C4 c inp) := by
 have h0 := Gu hc
 refine ⟨h0.pl, h.l, h0.pv, h.fv, fun n hn hf hd => ?_⟩
 show ((inp.getD n []).length : Int) ≤ _
 rw [h.ex n hn (by omega)]
 exact hc.cp n hn
theorem Ju (c : Ci) {inp : List (List Int)} : NU c (C4 c inp) (u0 c inp) := by
 refine ⟨fun p hp => ?_, fun n hn => rfl, fun n hn => Nat.zero_le _⟩
 show (gg c).procs.getD p bV = if p < c.procs.length then aQ (be c p) else bV
 rw [if_pos hp]
 exact aB hp
def ve (c : Ci) (e : Nat → List Int) (u : Uf) : Uf := ⟨u.s, fun n => if (eO c n).frm = -1 then u.l n ++ e n else u.l n, u.rd, u.cnt⟩
theorem Gw (hc : a6 c) (e : Nat → List Int) (hp : p < c.procs.length) (h : gF c u p = true) : ew c (ve c e u) p = ew c u p := by
 unfold gF ew at h
 rw [kM] at h
 unfold ew
 refine jU (hc.pr p hp) h (fun j hj hh => ?_) (fun j hj hr => hr)
 unfold u3 at hh ⊢
 rw [aB hj] at hh ⊢
 rw [aB hj]
 unfold Jr at hh ⊢
 split at hh
 ·rename_i hlt
  rw [if_pos hlt]
  show (if u.rd _ < (if _ then _ else _ : List Int).length then (⟨true, (if _ then _ else _ : List Int).getD (u.rd _) 0⟩ : Hd) else aP) = _
  split
  ·rw [if_pos (by rw [List.length_append]; omega), jV, if_pos hlt]
  ·first | rfl | rw [if_pos hlt]
 ·cases hh
theorem zI (hc : a6 c) (e : Nat → List Int) (hp : p < c.procs.length) (h : gF c u p = true) : am c (ve c e u) p = ve c e (am c u p) := by
 have hst := Gw hc e hp h
 have f1 : am c (ve c e u) p = ⟨fun q => if q = p then (ew c u p).s else u.s q, fun n => (ve c e u).l n ++ fq c p (ew c u p) n, fun n => u.rd n + i7 c p (ew c u p) n, fun q => if q = p then u.cnt q + 1 else u.cnt q⟩ := by rw [am, hst]; rfl
 rw [f1]
 refine Bg (fun _ => rfl) (fun n => ?_) (fun _ => rfl) (fun _ => rfl)
 show (if (eO c n).frm = -1 then u.l n ++ e n else u.l n) ++ fq c p (ew c u p) n = if (eO c n).frm = -1 then (u.l n ++ fq c p (ew c u p) n) ++ e n else u.l n ++ fq c p (ew c u p) n
 by_cases hf : (eO c n).frm = -1
 ·rw [if_pos hf, if_pos hf]
  have h0 : fq c p (ew c u p) n = [] := by
   refine Classical.byContradiction fun hh => ?_
   have := qQ hc hp hh
   omega
  rw [h0]; simp
 ·rw [if_neg hf, if_neg hf]
theorem C5 (hc : a6 c) (e : Nat → List Int) : ∀ {l : List Nat} {u : Uf}, hU c u l → hU c (ve c e u) l ∧ bP c (ve c e u) l = ve c e (bP c u l)
 | [], _, _ => ⟨trivial, rfl⟩
 | p :: r, u, ⟨hp, hcan, hr⟩ => by
  obtain ⟨a, b⟩ := C5 hc e hr
  refine ⟨⟨hp, ?_, ?_⟩, ?_⟩
  ·unfold gF; rw [Gw hc e hp hcan]; exact hcan
  ·rw [zI hc e hp hcan]; exact a
  ·rw [bP, zI hc e hp hcan]; exact b
theorem IC (e : Nat → List Int) (n : Nat) : u.l n <+: (ve c e u).l n := by
 show u.l n <+: if _ then _ else _
 split
 ·exact List.prefix_append _ _
 ·exact List.prefix_refl _
theorem Gx (hc : a6 c) {inp inp2 : List (List Int)} {e : Nat → List Int} {n n2 : Nat} (h : u0 c inp2 = ve c e (u0 c inp)) (hn : n ≤ n2) : (∀ k, (cu c inp n).l k <+: (cu c inp2 n2).l k) ∧ ∀ p, (cu c inp n).cnt p ≤ (cu c inp2 n2).cnt p := by
 have hm := ya c inp n
 obtain ⟨a, b⟩ := C5 hc e hm.can
 rw [← h] at a b
 obtain ⟨k1, k2⟩ := wQ (n := n2) hc a (fun p => Nat.le_trans (hm.le p) hn)
 refine ⟨fun k => ?_, fun p => by rw [C3]; exact k2 p⟩
 have h1 := k1 k
 rw [b] at h1
 exact (IC (c := c) e k).trans h1
end
end Go.Proofs.Ytckgpflobhpnpaa
