/-
  The laws of shadows, plain data: comparing any streams.
-/
import Derived.Test.YtgmpoenfoacofaaQShK
namespace Go.Proofs.Ytgmpoenfoacofaa
open Go.RowKit
set_option linter.unusedVariables false
set_option linter.unusedSimpArgs false
def iz (l : List Sm) (n i : Nat) : Sm := ⟨(l.getD i aB).name, (l.getD i aB).words.take (min (l.getD i aB).words.length n)⟩
def a8 (l : List Sm) (n : Nat) : List Sm := tab (iz l n) l.length
theorem bD (l : List Sm) (n : Nat) : (a8 l n).length = l.length := aY _ _
theorem j8 {l : List Sm} {n i : Nat} (hi : i < l.length) : (a8 l n).getD i aB = iz l n i := cf hi
theorem jc (l : List Sm) (n : Nat) : mK (a8 l n) l where
 l := bD l n
 n := fun i hi => by rw [bD] at hi; rw [j8 hi]; rfl
 w := fun i hi => by rw [bD] at hi; rw [j8 hi]; exact List.take_prefix _ _
theorem qS (l : List Sm) : mK l l := ⟨rfl, fun _ _ => rfl, fun _ _ => List.prefix_refl _⟩
theorem nW {a b : List Sm} : (aG a b).is = true ↔ ∀ z, z < a.length → cz a b z = false := by
 rcases lI a b with ⟨h, e⟩ | ⟨i, h1, h2, _, e⟩
 ·rw [e]; exact ⟨fun _ => h, fun _ => rfl⟩
 ·rw [e]
  constructor
  ·intro h; cases h
  ·intro h; rw [h i h1] at h2; cases h2
theorem wl {a b : List Sm} (h : (aG a b).is = true) : aG a b = ⟨e0, 0, true⟩ := io (nW.1 h)
theorem pF {a a' b b' : List Sm} (ha : mK a a') (hb : mK b b') (h : (aG a' b').is = true) : (aG a b).is = true := by
 rw [nW] at h ⊢
 intro z hz
 cases hc : cz a b z
 ·rfl
 ·have := h z (by rw [← ha.l]; exact hz)
  rw [(sW ha hb hz hc).1] at this; cases this
theorem uS (a b : List Int) : bE a b = bE b a := by
 unfold bE
 rw [Nat.min_comm]
 exact da (fun z _ => by unfold gf; simp only [eq_comm])
theorem uT {a b : List Sm} {i : Nat} (hi : i < a.length) (h : cz a b i = true) : ∃ k, k < b.length ∧ cz b a k = true := by
 obtain ⟨h1, h2, h3⟩ := j7 h
 obtain ⟨k, k1, k2, k3, k4⟩ := f4 (show 0 ≤ aW (qJ b (a.getD i aB).name) b.length from h1)
 have k2' : au b (a.getD i aB).name = (k : Int) := k2
 have hn : ((b.getD k aB).name.toList == (a.getD i aB).name.toList) = true := k3
 have f1 := lJ (l := a) hn
 have f2 := lJ (l := b) hn
 have hs : ∀ (l : List Sm) (m : Nat), (cj l (m : Int)).words = (l.getD m aB).words := fun l m => by rw [fy (by omega), Int.toNat_natCast]
 refine ⟨k, k1, f5 (by rw [f2, k2']) (by rw [f1, h2]; omega) ?_⟩
 rw [f1, h2]
 show 0 ≤ bE _ (cj a (i : Int)).words
 rw [k2'] at h3
 have h3' : 0 ≤ bE (a.getD i aB).words (cj b (k : Int)).words := h3
 rw [hs] at h3' ⊢
 rw [uS]; exact h3'
theorem r7 (a b : List Sm) : (aG a b).is = (aG b a).is := by
 have key : ∀ a b : List Sm, (aG a b).is = true → (aG b a).is = true := fun a b h => by
  rw [nW] at h ⊢
  intro z hz
  cases hc : cz b a z
  ·rfl
  ·obtain ⟨k, k1, k2⟩ := uT hz hc
   rw [h k k1] at k2; cases k2
 cases h : (aG a b).is
 ·cases h2 : (aG b a).is
  ·rfl
  ·rw [key b a h2] at h; cases h
 ·exact (key a b h).symm
theorem r8 (a : List Sm) : (aG a a).is = true := by
 rw [w9 rfl (fun _ _ => rfl) (fun _ _ => .inl (List.prefix_refl _))]
theorem r9 (a b : List Sm) : (aG (a8 a 0) b).is = true := by
 rw [nW]
 intro z hz
 rw [bD] at hz
 by_cases h1 : au (a8 a 0) ((a8 a 0).getD z aB).name = (z : Int)
 ·refine eO ?_
  rw [j8 hz]
  have : (iz a 0 z).words = [] := by unfold iz; simp
  rw [this, show bE [] (bC b (au b (iz a 0 z).name)) = -1 from a9 (fun q hq => by simp at hq)]
  omega
 ·exact ip h1
def be (l : List Sm) (nm : ByteArray) : List Sm := if au l nm < 0 then [] else [l.getD (au l nm).toNat aB]
theorem uU {l : List Sm} {nm : ByteArray} (h : ∀ z, z < l.length → qJ l nm z = false) : be l nm = [] := by
 unfold be; rw [if_pos (by rw [show au l nm = -1 from a9 h]; omega)]
theorem sa {l : List Sm} {nm : ByteArray} {i : Nat} (hi : i < l.length) (h : qJ l nm i = true) (h2 : ∀ z, z < i → qJ l nm z = false) : be l nm = (l.take (i + 1)).drop i := by
 have e : au l nm = (i : Int) := a4 h h2 hi
 unfold be
 rw [e, if_neg (by omega), Int.toNat_natCast, List.drop_take, show i + 1 - i = 1 by omega, List.drop_eq_getElem_cons hi, cR _ _ hi]
 rfl
theorem xa {s : Sm} {b : List Sm} {n : Nat} : aG (a8 [s] n) b = if 0 ≤ au b s.name ∧ 0 ≤ bE (s.words.take (min s.words.length n)) (bC b (au b s.name)) then ⟨s.name, bE (s.words.take (min s.words.length n)) (bC b (au b s.name)), false⟩ else ⟨e0, 0, true⟩ := by
 have e : a8 [s] n = [⟨s.name, s.words.take (min s.words.length n)⟩] := rfl
 rw [e]
 have hf : au [(⟨s.name, s.words.take (min s.words.length n)⟩ : Sm)] s.name = 0 := by rw [fD, if_pos (beq_self_eq_true _)]
 split
 ·rename_i h
  rw [lk (i := 0) (by simp) (f5 hf (by show ¬au b s.name < 0; omega) h.2) (fun z hz => by omega)]
  rfl
 ·rename_i h
  refine io (fun z hz => ?_)
  have : z = 0 := by simp at hz; exact hz
  subst this
  by_cases h1 : au b s.name < 0
  ·exact eN h1
  ·exact eO (fun q => h ⟨by omega, q⟩)
theorem xb {l : List Sm} {nm : ByteArray} {i : Nat} (h : au l nm = (i : Int)) : be l nm = [l.getD i aB] := by
 unfold be
 rw [h, if_neg (by omega), Int.toNat_natCast]
theorem mL {a b : List Sm} (h : ¬(aG a b).is = true) : 0 ≤ (aG a b).pos ∧ (aG (a8 (be a (aG a b).name) (aG a b).pos.toNat) b).is = true ∧ (aG (a8 (be a (aG a b).name) ((aG a b).pos + 1).toNat) b).is = false ∧ eM a b = false := by
 rcases lI a b with ⟨_, e⟩ | ⟨i, h1, h2, _, e⟩
 ·rw [e] at h; exact absurd rfl h
 refine ⟨?_, ?_, ?_, ny h⟩
 all_goals rw [e]
 all_goals obtain ⟨c1, c2, c3⟩ := j7 h2
 ·exact c3
 all_goals obtain ⟨d, d1, d2, d3, d4, d5⟩ := nU c3
 all_goals have hst : be a (pu a b i).name = [a.getD i aB] := xb c2
 all_goals rw [hst, xa]
 all_goals have hp : (pu a b i).pos = (d : Int) := d1
 all_goals rw [hp]
 ·rw [if_neg]
  rintro ⟨_, q⟩
  obtain ⟨z, _, z1, z2, z3, _⟩ := nU q
  rw [List.length_take] at z1
  have e1 : ((a.getD i aB).words.take (min (a.getD i aB).words.length ((d : Int)).toNat)).getD z 0 = (a.getD i aB).words.getD z 0 := dQ (List.take_prefix _ _) (by rw [List.length_take]; omega)
  rw [e1] at z3
  exact z3 (d5 z (by omega))
 ·have hdl : d < (a.getD i aB).words.length := d2
  have q : bE ((a.getD i aB).words.take (min (a.getD i aB).words.length ((d : Int) + 1).toNat)) (bC b (au b (a.getD i aB).name)) = (d : Int) := by
   have e1 : ∀ z, z ≤ d → ((a.getD i aB).words.take (min (a.getD i aB).words.length ((d : Int) + 1).toNat)).getD z 0 = (a.getD i aB).words.getD z 0 := fun z hz => dQ (List.take_prefix _ _) (by rw [List.length_take]; omega)
   refine uR (by rw [List.length_take]; omega) d3 (by rw [e1 d (Nat.le_refl _)]; exact d4) (fun z hz => by rw [e1 z (by omega)]; exact d5 z hz)
  rw [if_pos ⟨c1, by rw [q]; omega⟩]
def ff (l : List Sm) : Nat → Nat
 | 0 => l.length
 | i + 1 => ff l i + ((l.getD i aB).name.size + (l.getD i aB).words.length)
theorem j9 {l : List Sm} (h1 : l.length ≤ 1048576) (h2 : ∀ i, (l.getD i aB).name.size ≤ 1048576 ∧ (l.getD i aB).words.length ≤ 1048576) : ∀ i, ff l i ≤ 1048576 + i * 2097152
 | 0 => by show l.length ≤ _; omega
 | i + 1 => by
  have := j9 h1 h2 i
  have := h2 i
  rw [ff]; omega
theorem fF {l : List Sm} {n : Nat} (h : ∀ i, (l.getD i aB).words.length ≤ 1048576) (i : Nat) : ((a8 l n).getD i aB).words.length ≤ 9223372036854775807 := by
 by_cases hi : i < l.length
 ·rw [j8 hi]
  show (List.take _ _).length ≤ _
  rw [List.length_take]
  have := h i
  omega
 ·rw [List.getD, List.getElem?_eq_none (by rw [bD]; omega)]; simp
theorem dR (l : List Sm) (nm : ByteArray) : (be l nm).length ≤ 1 := by unfold be; split <;> simp
theorem nX {l : List Sm} {nm : ByteArray} (h : ∀ i, (l.getD i aB).words.length ≤ 1048576) (i : Nat) : ((be l nm).getD i aB).words.length ≤ 1048576 := by
 unfold be
 split
 ·simp
 ·cases i with
  | zero => exact h _
  | succ i => simp
theorem mM {a b : List Sm} (h : ∀ i, (a.getD i aB).words.length ≤ 1048576) : (aG a b).pos ≤ 1048576 := by
 rcases lI a b with ⟨_, e⟩ | ⟨i, h1, h2, _, e⟩
 ·rw [e]; show (0 : Int) ≤ _; omega
 ·rw [e]
  obtain ⟨_, _, c3⟩ := j7 h2
  obtain ⟨d, d1, d2, _⟩ := nU c3
  show bE _ _ ≤ _
  rw [d1]
  have := h i
  omega
end Go.Proofs.Ytgmpoenfoacofaa
