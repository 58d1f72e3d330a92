/-
  The laws of processes, plain data: all expressions of a process, with their parts.
-/
import Derived.Test.YtgfbfajaaaegjaaQPcG
import Derived.Test.YtgfbfajaaaegjaaQPrU
namespace Go.Proofs.Ytgfbfajaaaegjaa
open Go.RowKit
set_option linter.unusedVariables false
set_option linter.unusedSimpArgs false
def du (b : List Ex) (f : Nat → List Ex) : Nat → List Ex
 | 0 => b
 | n + 1 => du b f n ++ f n
theorem lF {b : List Ex} {f : Nat → List Ex} : ∀ (n : Nat), (∀ i, (f i).length ≤ 3) → (du b f n).length ≤ b.length + 3 * n
 | 0, _ => Nat.le_refl _
 | n + 1, h => by
  rw [du, List.length_append]
  have := lF (b := b) n h; have := h n; omega
theorem nZ {b : List Ex} {f : Nat → List Ex} {Q : Ex → Prop} (hb : ∀ a ∈ b, Q a) : ∀ (n : Nat), (∀ i, i < n → ∀ a ∈ f i, Q a) → ∀ a ∈ du b f n, Q a
 | 0, _, a, h => hb a h
 | n + 1, h, a, ha => by
  rw [du, List.mem_append] at ha
  rcases ha with ha | ha
  ·exact nZ hb n (fun i hi => h i (by omega)) a ha
  ·exact h n (by omega) a ha
theorem qt {f : Nat → List Ex} {enc : Ex → List V} {b x : List Ex} {i : Nat} (hb : b.length ≤ 10000) (h : ∀ j, (f j).length ≤ 3) (hi : i < 100000) (hx : x = f i) : (du b f i).length + (x.map enc).length ≤ 137438953472 ∧ (du b f i).map enc ++ x.map enc = (du b f (i + 1)).map enc := by
 subst hx
 constructor
 ·rw [List.length_map]
  have := lF (b := b) i h; have := h i; omega
 ·rw [du, List.map_append]
def fT (p : Pr) (i : Nat) : List Ex := [(pI p i).when]
def fR (p : Pr) (i : Nat) : List Ex := [(vW p i).next]
def fM (p : Pr) (i : Nat) : List Ex := [(iu p i).enable, (iu p i).addr, (iu p i).data]
def fP (p : Pr) (i : Nat) : List Ex := [(vV p i).when, (vV p i).data]
def Az (p : Pr) : List Ex := du [] (fT p) p.takes.length
def AA (p : Pr) : List Ex := du (Az p) (fR p) p.regs.length
def AB (p : Pr) : List Ex := du (AA p) (fM p) p.mems.length
def aj (p : Pr) : List Ex := du (AB p) (fP p) p.puts.length
theorem B7 (p : Pr) (j : Nat) : (fT p j).length ≤ 3 := by unfold fT; simp
theorem B8 (p : Pr) (j : Nat) : (fR p j).length ≤ 3 := by unfold fR; simp
theorem B9 (p : Pr) (j : Nat) : (fM p j).length ≤ 3 := by unfold fM; simp
theorem Ca (p : Pr) (j : Nat) : (fP p j).length ≤ 3 := by unfold fP; simp
theorem yg {p : Pr} (hp : cZ p) : (Az p).length ≤ 300 ∧ (AA p).length ≤ 600 ∧ (AB p).length ≤ 900 ∧ (aj p).length ≤ 1200 := by
 have h1 := hp.rl; have h2 := hp.ml; have h3 := hp.tl; have h4 := hp.pl
 have hA : (Az p).length ≤ 300 := by have := lF (b := []) p.takes.length (B7 p); unfold Az; simp only [List.length_nil] at this; omega
 have hB : (AA p).length ≤ 600 := by have := lF (b := Az p) p.regs.length (B8 p); unfold AA; omega
 have hC : (AB p).length ≤ 900 := by have := lF (b := AA p) p.mems.length (B9 p); unfold AB; omega
 exact ⟨hA, hB, hC, by have := lF (b := AB p) p.puts.length (Ca p); unfold aj; omega⟩
def gr : Ex → Nat
 | ⟨_, _, _, _, args⟩ => szL args + 1
where szL : List Ex → Nat
 | [] => 0
 | a :: r => gr a + szL r
theorem wR (e : Ex) : gr e = gr.szL e.args + 1 := by cases e with | mk op name k w args => rw [gr]
theorem yh : ∀ (a b : List Ex), gr.szL (a ++ b) = gr.szL a + gr.szL b
 | [], b => by rw [List.nil_append, gr.szL, Nat.zero_add]
 | x :: a, b => by rw [List.cons_append, gr.szL, gr.szL, yh a b, Nat.add_assoc]
theorem uz : ∀ (l : List Ex), l.length ≤ gr.szL l
 | [] => Nat.zero_le _
 | a :: l => by rw [List.length_cons, gr.szL]; have := uz l; have := wR a; omega
theorem BF {l : List Ex} {i : Nat} (h : i < l.length) : gr.szL (l.drop i) = gr (l.getD i dE) + gr.szL (l.drop (i + 1)) := by
 rw [List.drop_eq_getElem_cons h, gr.szL]
 simp [List.getD, List.getElem?_eq_getElem h]
theorem wS {B : Nat} : ∀ (l : List Ex), (∀ a ∈ l, gr a ≤ B) → gr.szL l ≤ l.length * B
 | [], _ => Nat.zero_le _
 | a :: l, h => by
  rw [gr.szL, List.length_cons, Nat.succ_mul]
  have := wS l (fun x hx => h x (by simp [hx])); have := h a (by simp); omega
theorem Cb {c : Sc} : ∀ (n : Nat) (e : Ex) (v : Int), dc c e = some v → cR e ≤ n → gr e ≤ 4 ^ n
 | 0, e, v, _, h => by have := qr e; omega
 | n + 1, e, v, ht, h => by
  rw [wR]
  have h1 := wS e.args (B := 4 ^ n) (fun a ha => by obtain ⟨w, hw⟩ := mo ht ha; exact Cb n a w hw (by have := d9 ha; omega))
  have h2 := rt ht
  have h3 : e.args.length * 4 ^ n ≤ 3 * 4 ^ n := Nat.mul_le_mul_right _ h2
  have h4 : 1 ≤ 4 ^ n := Nat.pow_pos (by omega)
  rw [Nat.pow_succ]; omega
def bP (l : List Ex) : Nat → List Ex
 | 0 => l
 | i + 1 => bP l i ++ ((bP l i).getD i dE).args
def ab (l : List Ex) : List Ex := bP l (gr.szL l)
theorem pn {l : List Ex} {i : Nat} (h : i < (bP l i).length) (hz : i + gr.szL ((bP l i).drop i) = gr.szL l) : i + 1 ≤ (bP l (i + 1)).length ∧ i + 1 + gr.szL ((bP l (i + 1)).drop (i + 1)) = gr.szL l := by
 rw [bP]
 refine ⟨by rw [List.length_append]; omega, ?_⟩
 rw [List.drop_append_of_le_length (by omega), yh]
 have h1 := BF h
 have h2 := wR ((bP l i).getD i dE)
 omega
theorem AC {l : List Ex} {i : Nat} (h : ¬i < (bP l i).length) (hi : i ≤ (bP l i).length) (hz : i + gr.szL ((bP l i).drop i) = gr.szL l) : bP l i = ab l := by
 have : i = (bP l i).length := by omega
 rw [List.drop_eq_nil_of_le (by omega), gr.szL] at hz
 unfold ab; rw [← hz]; rfl
theorem uA {l : List Ex} {i : Nat} (hi : i ≤ (bP l i).length) (hz : i + gr.szL ((bP l i).drop i) = gr.szL l) : (bP l i).length ≤ gr.szL l := by
 have := uz ((bP l i).drop i)
 rw [List.length_drop] at this
 omega
theorem AD {l : List Ex} {i : Nat} {enc : Ex → List V} (h : i < (bP l i).length) (hz : i + gr.szL ((bP l i).drop i) = gr.szL l) (hs : gr.szL l ≤ 1000000) : (bP l i).length + (((bP l i).getD i dE).args.map enc).length ≤ 137438953472 ∧ (bP l i).map enc ++ ((bP l i).getD i dE).args.map enc = (bP l (i + 1)).map enc := by
 obtain ⟨a, b⟩ := pn h hz
 have := uA a b
 rw [bP, List.length_append] at this
 exact ⟨by rw [List.length_map]; omega, by rw [bP, List.map_append]⟩
theorem kD {Q : Ex → Prop} (hQ : ∀ e, Q e → ∀ a ∈ e.args, Q a) {l : List Ex} (h : ∀ a ∈ l, Q a) : ∀ (i : Nat), ∀ a ∈ bP l i, Q a
 | 0, a, ha => h a ha
 | i + 1, a, ha => by
  rw [bP, List.mem_append] at ha
  rcases ha with ha | ha
  ·exact kD hQ h i a ha
  ·by_cases hi : i < (bP l i).length
   ·exact hQ _ (kD hQ h i _ (co hi)) a ha
   ·rw [List.getD, List.getElem?_eq_none (by omega)] at ha
    cases ha
def Et (c : Sc) (e : Ex) : Prop := cR e ≤ 3 ∧ ∃ v, dc c e = some v
theorem AE {c : Sc} (e : Ex) (h : Et c e) : ∀ a ∈ e.args, Et c a := fun a ha => by
 obtain ⟨h1, v, h2⟩ := h
 exact ⟨by have := d9 ha; omega, mo h2 ha⟩
theorem yi {p : Pr} {Q : Ex → Prop} (h1 : ∀ i, i < p.takes.length → ∀ a ∈ fT p i, Q a) (h2 : ∀ i, i < p.regs.length → ∀ a ∈ fR p i, Q a) (h3 : ∀ i, i < p.mems.length → ∀ a ∈ fM p i, Q a) (h4 : ∀ i, i < p.puts.length → ∀ a ∈ fP p i, Q a) : ∀ a ∈ aj p, Q a :=
 nZ (nZ (nZ (nZ (fun a h => by cases h) _ h1) _ h2) _ h3) _ h4
theorem uB {p : Pr} (hp : cZ p) : ∀ a ∈ aj p, Et (f8 p) a := by
 refine yi (fun i hi a ha => ?_) (fun i hi a ha => ?_) (fun i hi a ha => ?_) (fun i hi a ha => ?_)
 ·have := nu hp hi
  rw [fT, List.mem_singleton] at ha
  rw [ha]; exact ⟨this.2, _, this.1⟩
 ·have := hp.rw i hi
  rw [fR, List.mem_singleton] at ha
  rw [ha]; exact ⟨this.2.2.2, _, this.2.2.1⟩
 ·obtain ⟨_, _, ⟨a1, a2⟩, ⟨⟨v, a3⟩, a4⟩, a5, a6⟩ := hp.mw i hi
  simp only [fM, List.mem_cons, List.not_mem_nil, or_false] at ha
  rcases ha with rfl | rfl | rfl
  ·exact ⟨a2, _, a1⟩
  ·exact ⟨a4, _, a3⟩
  ·exact ⟨a6, _, a5⟩
 ·obtain ⟨_, ⟨a1, a2⟩, a3, a4⟩ := hp.pw i hi
  simp only [fP, List.mem_cons, List.not_mem_nil, or_false] at ha
  rcases ha with rfl | rfl
  ·exact ⟨a2, _, a1⟩
  ·exact ⟨a4, _, a3⟩
theorem AF {p : Pr} (hp : cZ p) : gr.szL (aj p) ≤ 1000000 := by
 have h1 := wS (aj p) (B := 64) (fun a ha => by obtain ⟨h, v, hv⟩ := uB hp a ha; exact Cb 3 a v hv h)
 have h2 := (yg hp).2.2.2
 omega
theorem vO {p : Pr} (hp : cZ p) {i : Nat} (hi : i < (ab (aj p)).length) : Et (f8 p) ((ab (aj p)).getD i dE) := kD AE (uB hp) _ _ (co hi)
theorem rU (l : List Ex) : ∀ i, i ≤ gr.szL l → i ≤ (bP l i).length ∧ i + gr.szL ((bP l i).drop i) = gr.szL l
 | 0, _ => ⟨Nat.zero_le _, by rw [bP, List.drop_zero]; omega⟩
 | i + 1, h => by
  obtain ⟨a, b⟩ := rU l i (by omega)
  refine pn ?_ b
  rcases Nat.lt_or_ge i (bP l i).length with h1 | h1
  ·exact h1
  ·rw [List.drop_eq_nil_of_le h1, gr.szL] at b; omega
theorem vP {p : Pr} (hp : cZ p) : (ab (aj p)).length ≤ gr.szL (aj p) := uA (rU _ _ (Nat.le_refl _)).1 (rU _ _ (Nat.le_refl _)).2
theorem yj {p : Pr} (hp : cZ p) (b : List Int) : sm p (cM p b) where
 l := aC _ _
 v := fun i hi => by
  unfold cM
  rw [bn hi]
  have := aE.1 (hp.tw i hi).1
  exact gi (by omega) (by omega)
def rV (z : Ps) : Bool := ee (fun i => decide ((z.mems.getD i []).length ≤ 20)) (min z.mems.length 9) && (decide ((z.regs.length : Int) ≤ 20) && decide ((z.mems.length : Int) ≤ 8))
theorem rX {z : Ps} {i : Nat} (h1 : i < z.mems.length) (h2 : i < 9) (h : ¬(z.mems.getD i []).length ≤ 20) : rV z = false := by
 unfold rV
 rw [qk (i := i) (by omega) (by simpa using h)]; rfl
theorem n9 {z : Ps} {i : Nat} (h : ∀ j, j < i → (z.mems.getD j []).length ≤ 20) (h1 : ¬(i < z.mems.length ∧ i < 9)) : rV z = (decide ((z.regs.length : Int) ≤ 20) && decide ((z.mems.length : Int) ≤ 8)) := by
 unfold rV
 rw [fd.2 (fun j hj => decide_eq_true (h j (by omega))), Bool.true_and]
end Go.Proofs.Ytgfbfajaaaegjaa
