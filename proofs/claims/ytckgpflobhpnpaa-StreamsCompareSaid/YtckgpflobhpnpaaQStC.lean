/-
  The streams of a circuit; greater capacities, longer inputs.
-/
import Derived.Test.YtckgpflobhpnpaaQStB
import Derived.Test.YtckgpflobhpnpaaQNeQ
namespace Go.Proofs.Ytckgpflobhpnpaa
open Go.RowKit
set_option linter.unusedVariables false
set_option linter.unusedSimpArgs false
def f7 (n : Nat) (cnt : Nat → Nat) : Nat → Nat
 | 0 => 0
 | P + 1 => f7 n cnt P + (n - cnt P)
theorem pG {n p : Nat} {cnt : Nat → Nat} (h : cnt p < n) : ∀ P, f7 n (fun q => if q = p then cnt q + 1 else cnt q) P + (if p < P then 1 else 0) = f7 n cnt P
 | 0 => rfl
 | P + 1 => by
  have ih := pG (p := p) h P
  rw [f7, f7]
  by_cases e : P = p
  ·subst e
   rw [if_neg (Nat.lt_irrefl _)] at ih
   rw [if_pos (Nat.lt_succ_self _)]
   simp only [if_true]
   omega
  ·simp only [if_neg e]
   by_cases g : p < P
   ·rw [if_pos g] at ih; rw [if_pos (by omega)]; omega
   ·rw [if_neg g] at ih; rw [if_neg (by omega)]; omega
theorem yX (n : Nat) (cnt : Nat → Nat) : ∀ P, f7 n cnt P ≤ n * P
 | 0 => Nat.le_refl _
 | P + 1 => by have := yX n cnt P; rw [f7, Nat.mul_succ]; omega
def Ay (c : Ci) (n : Nat) (u : Uf) : Option Nat := (List.range c.procs.length).find? (fun p => iC c u p && decide (u.cnt p < n))
def Eg (c : Ci) (n : Nat) : Nat → Uf → List Nat
 | 0, _ => []
 | k + 1, u => match Ay c n u with
  | some p => p :: Eg c n k (ah c u p)
  | none => []
section
variable {c : Ci} {u v : Uf} {p n : Nat}
theorem BD (h : Ay c n u = some p) : p < c.procs.length ∧ iC c u p = true ∧ u.cnt p < n := by
 have h1 := List.mem_of_find?_eq_some h
 have h2 := List.find?_some h
 rw [Bool.and_eq_true, decide_eq_true_eq] at h2
 exact ⟨List.mem_range.1 h1, h2.1, h2.2⟩
theorem BE (h : Ay c n u = none) : ∀ p, p < c.procs.length → iC c u p = true → n ≤ u.cnt p := by
 intro p hp hcan
 have := List.find?_eq_none.1 h p (List.mem_range.2 hp)
 rw [hcan, Bool.true_and, decide_eq_true_eq] at this
 omega
theorem F8 : ∀ (k : Nat) (u : Uf), f7 n u.cnt c.procs.length ≤ k → jz c u (Eg c n k u) ∧ (∀ q, u.cnt q ≤ n → (bX c u (Eg c n k u)).cnt q ≤ n) ∧ ∀ p, p < c.procs.length → iC c (bX c u (Eg c n k u)) p = true → n ≤ (bX c u (Eg c n k u)).cnt p
 | 0, u, h => by
  refine ⟨trivial, fun q hq => hq, fun p hp _ => ?_⟩
  refine Nat.not_lt.1 fun hlt => ?_
  have hlt2 : u.cnt p < n := hlt
  have := pG hlt2 c.procs.length
  rw [if_pos hp] at this
  omega
 | k + 1, u, h => by
  rw [Eg]
  cases hk : Ay c n u with
  | none => exact ⟨trivial, fun q hq => hq, BE hk⟩
  | some p =>
   obtain ⟨h1, h2, h3⟩ := BD hk
   have hr := pG h3 c.procs.length
   rw [if_pos h1] at hr
   obtain ⟨a, b, d⟩ := F8 k (ah c u p) (by show f7 n (fun q => if q = p then u.cnt q + 1 else u.cnt q) c.procs.length ≤ k; omega)
   refine ⟨⟨h1, h2, a⟩, fun q hq => b q ?_, d⟩
   show (if q = p then u.cnt q + 1 else u.cnt q) ≤ n
   split
   ·rename_i e; rw [e]; omega
   ·exact hq
def u0 (c : Ci) (inp : List (List Int)) : Uf := ⟨fun p => if p < c.procs.length then aL (a6 c p) else bK, fun n => inp.getD n [], fun _ => 0, fun _ => 0⟩
def BF (c : Ci) (inp : List (List Int)) (n : Nat) : List Nat := Eg c n (n * c.procs.length) (u0 c inp)
def df (c : Ci) (inp : List (List Int)) (n : Nat) : Uf := bX c (u0 c inp) (BF c inp n)
theorem DD (c : Ci) (inp : List (List Int)) (n : Nat) : Ip c n (u0 c inp) (BF c inp n) := by
 obtain ⟨a, b, d⟩ := F8 (c := c) (n := n) (n * c.procs.length) (u0 c inp) (yX _ _ _)
 have hc : ∀ q, (bX c (u0 c inp) (BF c inp n)).cnt q = (BF c inp n).count q := fun q => by rw [f6]; show 0 + _ = _; omega
 exact ⟨a, fun q => by rw [← hc]; exact b q (Nat.zero_le _), fun p hp hcan => by rw [← hc]; exact d p hp hcan⟩
theorem Hb (hc : a8 c) {inp : List (List Int)} {l : List Nat} (h : Ip c n (u0 c inp) l) : bX c (u0 c inp) l = df c inp n := (Iq hc h (DD c inp n)).1
structure tc (c : Ci) (inp : List (List Int)) : Prop where
 l : inp.length = c.chans.length
 ex : ∀ n, n < c.chans.length → (gF c n).frm ≠ -1 → inp.getD n [] = []
 fv : ∀ n, n < c.chans.length → ∀ i, i < (inp.getD n []).length → dM ((inp.getD n []).getD i 0) (gF c n).w
 sm : ∀ n, (inp.getD n []).length ≤ 1000
def Eh (c : Ci) (inp : List (List Int)) : Ns := ⟨(fD c).procs, inp⟩
theorem F9 (hc : a8 c) {inp : List (List Int)} (h : tc c inp) : jt c (Eh c inp) := by
 have h0 := DC hc
 refine ⟨h0.pl, h.l, h0.pv, h.fv, fun n hn hf hd => ?_⟩
 show ((inp.getD n []).length : Int) ≤ _
 rw [h.ex n hn (by omega)]
 exact hc.cp n hn
theorem Ir (c : Ci) {inp : List (List Int)} : NU c (Eh c inp) (u0 c inp) := by
 refine ⟨fun p hp => ?_, fun n hn => rfl, fun n hn => Nat.zero_le _⟩
 show (fD c).procs.getD p bK = if p < c.procs.length then aL (a6 c p) else bK
 rw [if_pos hp]
 exact aH hp
end
end Go.Proofs.Ytckgpflobhpnpaa
