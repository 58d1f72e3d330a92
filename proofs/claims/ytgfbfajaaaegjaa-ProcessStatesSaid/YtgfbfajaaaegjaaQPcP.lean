/-
  The laws of processes, plain data: what a valid process is; names, numbers of nodes.
-/
import Derived.Test.YtgfbfajaaaegjaaQPcM
namespace Go.Proofs.Ytgfbfajaaaegjaa
open Go.RowKit
set_option linter.unusedVariables false
set_option linter.unusedSimpArgs false
theorem sy {α : Type _} (d x : α) (k k' : ByteArray) : ∀ l : List (ByteArray × α), eu d (cR l k x) k' = if k' = k then x else eu d l k'
 | [] => rfl
 | (q, y) :: r => by
  rw [cR]
  split
  ·rename_i h
   subst h
   rw [eu, eu]
   split
   ·rfl
   ·rfl
  ·rename_i h
   rw [eu, eu, sy d x k k' r]
   by_cases h1 : k' = q
   ·rw [if_pos h1, if_pos h1]
    rw [if_neg (fun h2 => h (h2.symm.trans h1))]
   ·rw [if_neg h1, if_neg h1]
def u5 (b : List (ByteArray × Bool)) (f : Nat → ByteArray) : Nat → List (ByteArray × Bool)
 | 0 => b
 | i + 1 => cR (u5 b f i) (f i) true
theorem tH {b : List (ByteArray × Bool)} {f : Nat → ByteArray} {k : ByteArray} : ∀ (i : Nat), eu false b k = false → (∀ j, j < i → f j ≠ k) → eu false (u5 b f i) k = false
 | 0, h, _ => h
 | i + 1, h, hf => by
  rw [u5, sy, if_neg (fun e => hf i (by omega) e.symm)]
  exact tH i h (fun j hj => hf j (by omega))
def lQ : Ex → Bool
 | ⟨op, _, _, _, args⟩ => hdL args || decide (op = 18)
where hdL : List Ex → Bool
 | [] => false
 | a :: r => lQ a || hdL r
theorem zq (e : Ex) : lQ e = (lQ.hdL e.args || decide (e.op = 18)) := by cases e with | mk op name k w args => rw [lQ]
theorem xa : ∀ (a b : List Ex), lQ.hdL (a ++ b) = (lQ.hdL a || lQ.hdL b)
 | [], b => by rw [List.nil_append, lQ.hdL, Bool.false_or]
 | x :: a, b => by rw [List.cons_append, lQ.hdL, lQ.hdL, xa a b, Bool.or_assoc]
theorem tI (e : Ex) : cE.szL [e] = cE e := by rw [cE.szL, cE.szL]; rfl
theorem zr {l : List Ex} {i : Nat} (h : i < l.length) : cE.szL (l.take (i + 1)) = cE.szL (l.take i) + (1 + cE.szL (l.getD i dE).args) := by
 rw [ie (d := dE) h, iO, tI, tB]; omega
theorem qY {l : List Ex} {i : Nat} (h : i < l.length) : lQ.hdL (l.take (i + 1)) = (lQ.hdL (l.take i) || (lQ.hdL (l.getD i dE).args || decide ((l.getD i dE).op = 18))) := by
 rw [ie (d := dE) h, xa]
 congr 1
 rw [lQ.hdL, lQ.hdL, Bool.or_false, zq]
theorem AD {l : List Ex} {i : Nat} : cE.szL (l.take i) ≤ cE.szL l := by
 have := iO (l.take i) (l.drop i)
 rw [List.take_append_drop] at this
 omega
theorem zs {l : List Ex} {e : Ex} (h : e ∈ l) : cE.szL e.args < cE.szL l := by
 obtain ⟨s, t, rfl⟩ := List.append_of_mem h
 rw [iO, cE.szL, tB]; omega
theorem C4 {c : Sc} : ∀ (n : Nat) (e : Ex) (v : Int), cz c e = some v → ce e ≤ n → 2 * cE e + 1 ≤ 3 ^ n
 | 0, e, v, _, h => by have := kk e; omega
 | n + 1, e, v, ht, h => by
  have h1 : ∀ a ∈ e.args, 2 * cE a + 1 ≤ 3 ^ n := fun a ha => by obtain ⟨w, hw⟩ := to ht ha; exact C4 n a w hw (by have := fA ha; omega)
  have h2 := vQ ht
  have h3 : ∀ l : List Ex, (∀ a ∈ l, 2 * cE a + 1 ≤ 3 ^ n) → 2 * cE.szL l + l.length ≤ l.length * 3 ^ n := by
   intro l
   induction l with
   | nil => intro _; rw [cE.szL]; simp
   | cons a r ih =>
    intro h
    have q1 := ih (fun x hx => h x (by simp [hx])); have q2 := h a (by simp)
    rw [cE.szL, List.length_cons, Nat.succ_mul r.length]; omega
  have h4 := h3 e.args h1
  have h5 : 1 ≤ 3 ^ n := Nat.pow_pos (by omega)
  rw [tB, Nat.pow_succ]
  have h6 : e.args.length = 0 ∨ e.args.length = 1 ∨ e.args.length = 2 ∨ e.args.length = 3 := by omega
  rcases h6 with h6 | h6 | h6 | h6 <;> rw [h6] at h4 <;> omega
theorem qZ {c : Sc} {e : Ex} (h : D0 c e) : cE e ≤ 13 := by
 obtain ⟨h1, v, h2⟩ := h
 have := C4 3 e v h2 h1
 omega
structure C5 (p : Pr) : Prop where
 ok : dA p
 nr : p.regs.length ≤ 3
 nm : p.mems.length ≤ 1
 nt : p.takes.length ≤ 2
 np : p.puts.length ≤ 2
 fld : ∀ a ∈ zb p, eh a
 rn : ∀ i, i < p.regs.length → ∀ j, j < i → (rj p j).name ≠ (rj p i).name
 mn : ∀ i, i < p.mems.length → ∀ j, j < p.regs.length → (rj p j).name ≠ (fr p i).name
 rk : ∀ i, i < p.regs.length → 0 ≤ (rj p i).rule.kind ∧ (rj p i).rule.kind ≤ 3
 mk' : ∀ i, i < p.mems.length → 0 ≤ (fr p i).rule.kind ∧ (fr p i).rule.kind ≤ 3
 mw : ∀ i, i < p.mems.length → (fr p i).words = 1 ∨ (fr p i).words = 2 ∨ (fr p i).words = 4
 tk : ∀ i, i < p.takes.length → 0 ≤ (o0 p i).chan
 pk : ∀ i, i < p.puts.length → 0 ≤ (tq p i).chan
theorem Bc {c : Sc} (hc : c.tw = []) : ∀ (n : Nat) (e : Ex) (v : Int), ce e ≤ n → cz c e = some v → lQ e = false
 | 0, e, v, h, _ => by have := kk e; omega
 | n + 1, e, v, h, ht => by
  have hL : ∀ l : List Ex, (∀ a ∈ l, lQ a = false) → lQ.hdL l = false := by
   intro l
   induction l with
   | nil => intro _; rfl
   | cons a r ih => intro h; rw [lQ.hdL, h a (by simp), ih (fun x hx => h x (by simp [hx]))]; rfl
  have h1 := hL e.args (fun a ha => by obtain ⟨w, hw⟩ := to ht ha; exact Bc hc n a w (by have := fA ha; omega) hw)
  rw [zq, h1, Bool.false_or]
  refine decide_eq_false (fun h18 => ?_)
  obtain ⟨ws, q1, q2⟩ := cS ht
  rcases q2 with ⟨a, _⟩ | ⟨_, _, a, b, _⟩ | ⟨a, _⟩ | ⟨_, _, a, _⟩
  ·omega
  ·rw [hc] at b; simp at b; omega
  ·omega
  ·exact a h18
theorem AE {p : Pr} (hp : dA p) {i : Nat} (hi : i < p.takes.length) : lQ (o0 p i).when = false := Bc rfl _ _ _ (Nat.le_refl _) (hp.tw i hi).2.1
def x7 (p : Pr) (i : Nat) : ByteArray := (p.regs.getD i aA).name
def Ek (p : Pr) (i : Nat) : ByteArray := (p.mems.getD i ai).name
theorem xc (b : Int) (nm : ByteArray) : 0 ≤ (ci b nm).kind ∧ (ci b nm).kind ≤ 3 := by
 unfold ci
 split
 ·decide
 ·split
  ·exact ⟨(by decide : (0 : Int) ≤ 2), (by decide : (2 : Int) ≤ 3)⟩
  ·split
   ·exact ⟨(by decide : (0 : Int) ≤ 3), (by decide : (3 : Int) ≤ 3)⟩
   ·decide
theorem zt {b : List Int} (hb : pv b) : C5 (aa b) := by
 have hn := ol (b.getD 0 0)
 have ht := oo (b.getD 0 0)
 have hp := qL (b.getD 0 0)
 have l1 : (aa b).regs.length = aD (b.getD 0 0) := aB _ _
 have l2 : (aa b).takes.length = ax (b.getD 0 0) := aB _ _
 have l3 : (aa b).puts.length = fe (b.getD 0 0) := aB _ _
 have l4 : (aa b).mems.length = (kW b).length := pP.1
 have l5 := (pP (b := b)).2
 have er : ∀ i, i < (aa b).regs.length → rj (aa b) i = y6 b i := fun i hi => aZ (by rw [l1] at hi; exact hi)
 have em : ∀ i, i < (aa b).mems.length → fr (aa b) i = y7 b := fun i hi => by
  by_cases h3 : b.getD 0 0 / 4 % 4 = 3
  ·have hm := kg h3
   rw [hm] at hi
   have h0 : i = 0 := by simpa using hi
   subst h0
   show (aa b).mems.getD 0 ai = _; rw [hm]; rfl
  ·rw [kh h3] at hi; exact absurd hi (Nat.not_lt_zero _)
 refine ⟨uR hb, by omega, by omega, by omega, by omega, zc b, fun i hi j hj => ?_, fun i hi j hj => ?_, fun i hi => ?_, fun i hi => ?_, fun i hi => ?_, fun i hi => ?_, fun i hi => ?_⟩
 ·rw [er i hi, er j (by omega)]
  show CM ++ a6 (j : Nat) ≠ CM ++ a6 (i : Nat)
  have : (j = 0 ∧ i = 1) ∨ (j = 0 ∧ i = 2) ∨ (j = 1 ∧ i = 2) := by omega
  rcases this with ⟨rfl, rfl⟩ | ⟨rfl, rfl⟩ | ⟨rfl, rfl⟩ <;> decide +kernel
 ·rw [em i hi, er j hj]
  show CM ++ a6 (j : Nat) ≠ BE
  have : j = 0 ∨ j = 1 ∨ j = 2 := by omega
  rcases this with rfl | rfl | rfl <;> decide +kernel
 ·rw [er i hi]; exact xc _ _
 ·rw [em i hi]; exact xc _ _
 ·rw [em i hi]
  show lN (b.getD 4 0) = 1 ∨ lN (b.getD 4 0) = 2 ∨ lN (b.getD 4 0) = 4
  unfold lN
  have : (b.getD 4 0 / 2 % 4).toNat = 0 ∨ (b.getD 4 0 / 2 % 4).toNat = 1 ∨ (b.getD 4 0 / 2 % 4).toNat = 2 ∨ (b.getD 4 0 / 2 % 4).toNat = 3 := by omega
  rcases this with h | h | h | h <;> rw [h] <;> decide
 ·rw [show o0 (aa b) i = Ai b i from aZ (by rw [l2] at hi; exact hi)]
  show (0 : Int) ≤ (i : Nat); omega
 ·rw [show tq (aa b) i = BF b i from aZ (by rw [l3] at hi; exact hi)]
  show (0 : Int) ≤ ((ax (b.getD 0 0) + i : Nat) : Int); omega
theorem tJ {p : Pr} {e : Ex} (h : (∃ i, i < p.takes.length ∧ e ∈ fT p i) ∨ (∃ i, i < p.regs.length ∧ e ∈ fR p i) ∨ (∃ i, i < p.mems.length ∧ e ∈ fM p i) ∨ ∃ i, i < p.puts.length ∧ e ∈ fP p i) : e ∈ zb p := by
 have key : ∀ (b : List Ex) (f : Nat → List Ex) (n i : Nat), i < n → e ∈ f i → e ∈ ot b f n := by
  intro b f n
  induction n with
  | zero => intro i hi; omega
  | succ n ih =>
   intro i hi he
   rw [ot, List.mem_append]
   by_cases h : i = n
   ·exact .inr (h ▸ he)
   ·exact .inl (ih i (by omega) he)
 have up : ∀ (b : List Ex) (f : Nat → List Ex) (n : Nat), e ∈ b → e ∈ ot b f n := by
  intro b f n h
  induction n with
  | zero => exact h
  | succ n ih => rw [ot, List.mem_append]; exact .inl ih
 unfold zb DT DS DR
 rcases h with ⟨i, h1, h2⟩ | ⟨i, h1, h2⟩ | ⟨i, h1, h2⟩ | ⟨i, h1, h2⟩
 ·exact up _ _ _ (up _ _ _ (up _ _ _ (key _ _ _ i h1 h2)))
 ·exact up _ _ _ (up _ _ _ (key _ _ _ i h1 h2))
 ·exact up _ _ _ (key _ _ _ i h1 h2)
 ·exact key _ _ _ i h1 h2
end Go.Proofs.Ytgfbfajaaaegjaa
