/-
  Made circuits are well made.
-/
import Derived.Test.YtifoecfajmnjjaaGreatQNeS
namespace Go.Proofs.YtifoecfajmnjjaaGreat
open Go.RowKit
set_option linter.unusedVariables false
set_option linter.unusedSimpArgs false
theorem Fo {s : Sg} {b : List Int} (hb : iz b) (i : Nat) : gi s.sc (a7 s b i).1 = some 1 ∧ hT (a7 s b i).1 ≤ 3 := by
 unfold a7
 split
 ·have h := wv (s := s) hb 2 (i + 1) 1 (by omega) (by omega) (by omega)
  exact ⟨h.1, by have := h.2.1; omega⟩
 ·exact ⟨rfl, by show hT ip ≤ 3; decide⟩
theorem LU (y : Int) (f : Nat → Rg) (hf : ∀ k, (f k).w = cj y k) : (⟨(ao f (ug y)).map (·.w), [], []⟩ : Sc) = (Mf y).sc := by
 have : (ao f (ug y)).map (·.w) = Me y := by
  unfold Me ao
  rw [List.map_map]
  exact List.map_congr_left (fun k _ => hf k)
 rw [this]; rfl
theorem LV (y : Int) (n : Nat) (f : Nat → Rg) (g : Nat → Tk) (hf : ∀ k, (f k).w = cj y k) (hg : ∀ k, (g k).w = 2) : (⟨(ao f (ug y)).map (·.w), [], (ao g n).map (·.w)⟩ : Sc) = (BG y n).sc := by
 have e1 : (ao f (ug y)).map (·.w) = Me y := by
  unfold Me ao
  rw [List.map_map]
  exact List.map_congr_left (fun k _ => hf k)
 have e2 : (ao g n).map (·.w) = List.replicate n 2 := by
  apply List.ext_getElem
  ·simp [aN]
  ·intro i h1 h2
   simp [ao, hg]
 rw [e1, e2]; rfl
theorem Kc {b : List Int} (hb : iz b) {i : Nat} {nm : ByteArray} {e : En} (ht : e.takes.length ≤ 2) (hp : e.puts.length ≤ 2) : iA (b5 b i nm e).1 := by
 have hy := eL hb i
 have hn := DD hy.1
 have hs0 : O6 (b5 b i nm e).1 = (Mf (b.getD i 0)).sc := LU _ _ (fun k => rfl)
 have hs1 : sg (b5 b i nm e).1 = (BG (b.getD i 0) e.takes.length).sc := LV _ _ _ _ (fun k => rfl) (fun k => rfl)
 have l1 : (b5 b i nm e).1.regs.length = ug (b.getD i 0) := aN _ _
 have l2 : (b5 b i nm e).1.takes.length = e.takes.length := aN _ _
 have l3 : (b5 b i nm e).1.puts.length = e.puts.length := aN _ _
 have l4 : (b5 b i nm e).1.mems.length = 0 := rfl
 refine ⟨by omega, by omega, by omega, by omega, fun k hk => ?_, fun k hk => by omega, fun k hk => ?_, fun k hk => ?_⟩
 ·rw [hs1]
  rw [l1] at hk
  have e1 : F5 (b5 b i nm e).1 k = OJ b (b.getD i 0) e.takes.length (o9 b i e) k := bf hk
  rw [e1]
  have hw := Ab (b.getD i 0) k
  have h := wv (s := BG (b.getD i 0) e.takes.length) hb 3 (z7 b (b.getD i 0) e.takes.length (o9 b i e) k) (cj (b.getD i 0) k) (by omega) (by omega) (by omega)
  refine ⟨bc.2 (by show 1 ≤ cj (b.getD i 0) k ∧ cj (b.getD i 0) k ≤ 8; omega), ?_, h.1, by have := h.2.1; show hT (ax _ b 3 _ _).1 ≤ 3; omega⟩
  show eF (b.getD i 0 / 8 % 2 ^ (cj (b.getD i 0) k).toNat) (cj (b.getD i 0) k)
  unfold eF
  rw [da (by omega) (by omega)]
  have hp2 : (0 : Int) < 2 ^ (cj (b.getD i 0) k).toNat := Int.pow_pos (by omega)
  exact ⟨Int.emod_nonneg _ (by omega), by have := Int.emod_lt_of_pos (b.getD i 0 / 8) hp2; omega⟩
 ·rw [hs0]
  rw [l2] at hk
  have e1 : nN (b5 b i nm e).1 k = GN b (b.getD i 0) (i + 1) e k := bf hk
  rw [e1]
  exact ⟨rfl, Fo hb _⟩
 ·rw [hs1]
  rw [l3] at hk
  have e1 : uI (b5 b i nm e).1 k = Jl b (b.getD i 0) e.takes.length (nX b i e) e k := bf hk
  rw [e1]
  have h := wv (s := BG (b.getD i 0) e.takes.length) hb 2 (a7 (BG (b.getD i 0) e.takes.length) b (w7 b (b.getD i 0) e.takes.length (nX b i e) k)).2 2 (by omega) (by omega) (by omega)
  exact ⟨rfl, Fo hb _, h.1, by have := h.2.1; show hT (ax _ b 2 _ _).1 ≤ 3; omega⟩
def Nx (l : List En) : Prop := ∀ i, i < l.length → ∀ j, j < (l.getD i dH).takes.length → 0 ≤ (l.getD i dH).takes.getD j 0 ∧ (l.getD i dH).takes.getD j 0 < sO l l.length + 1 ∧ Ar l ((l.getD i dH).takes.getD j 0) l.length = (i : Int)
def Ny (l : List En) : Prop := ∀ i, i < l.length → ∀ j, j < (l.getD i dH).puts.length → 0 ≤ (l.getD i dH).puts.getD j 0 ∧ (l.getD i dH).puts.getD j 0 < sO l l.length + 1 ∧ Au l ((l.getD i dH).puts.getD j 0) l.length = (i : Int)
def Nz (l : List En) : Prop := ∀ i, i < l.length → ∀ j, j < (l.getD i dH).takes.length → ∀ k, k < (l.getD i dH).takes.length → (l.getD i dH).takes.getD j 0 = (l.getD i dH).takes.getD k 0 → j = k
def NA (l : List En) : Prop := ∀ i, i < l.length → ∀ j, j < (l.getD i dH).puts.length → ∀ k, k < (l.getD i dH).puts.length → (l.getD i dH).puts.getD j 0 = (l.getD i dH).puts.getD k 0 → j = k
theorem NB (sh : Int) : Nx (av sh) ∧ Ny (av sh) ∧ Nz (av sh) ∧ NA (av sh) := by
 unfold Nx Ny Nz NA
 rcases nq sh with h | h | h | h | h | h <;> rw [h] <;> decide
theorem xi {sh : Int} {b : List Int} (h0 : 0 ≤ sh) (h1 : sh ≤ 255) (hb : iz b) : bo (aa sh b) := by
 have hpl := BJ sh
 have hnc := IK sh
 obtain ⟨q1, q2, q3, q4⟩ := NB sh
 have lp : (aa sh b).procs.length = (av sh).length := aN _ _
 have lc : (aa sh b).chans.length = np sh := aN _ _
 have gp : ∀ i, i < (av sh).length → aB (aa sh b) i = uj b (av sh) i := fun i hi => bf hi
 have gc : ∀ n, n < np sh → fk (aa sh b) n = w9 sh (av sh) n := fun n hn => bf hn
 have ltk : ∀ i, (uj b (av sh) i).takes.length = ((av sh).getD i dH).takes.length := fun i => aN _ _
 have lpt : ∀ i, (uj b (av sh) i).puts.length = ((av sh).getD i dH).puts.length := fun i => aN _ _
 have ctk : ∀ i j, j < ((av sh).getD i dH).takes.length → (nN (uj b (av sh) i) j).chan = ((av sh).getD i dH).takes.getD j 0 ∧ (nN (uj b (av sh) i) j).w = 2 := fun i j hj => by
  have : nN (uj b (av sh) i) j = GN b _ _ ((av sh).getD i dH) j := bf hj
  rw [this]; exact ⟨rfl, rfl⟩
 have cpt : ∀ i j, j < ((av sh).getD i dH).puts.length → (uI (uj b (av sh) i) j).chan = ((av sh).getD i dH).puts.getD j 0 ∧ (uI (uj b (av sh) i) j).w = 2 := fun i j hj => by
  have : uI (uj b (av sh) i) j = Jl b _ _ _ ((av sh).getD i dH) j := bf hj
  rw [this]; exact ⟨rfl, rfl⟩
 have cast : ∀ x : Int, 0 ≤ x → ((x.toNat : Nat) : Int) = x := fun x hx => by omega
 refine ⟨by omega, by omega, by omega, fun i hi => ?_, fun i hi j hj => ?_, fun i hi j hj => ?_, fun i hi j k hj hk he => ?_, fun i hi j k hj hk he => ?_, fun n hn => ?_, fun n hn => ?_⟩
 ·rw [lp] at hi
  rw [gp i hi]
  have he := qe sh i
  exact Kc hb he.1 he.2
 ·rw [lp] at hi
  rw [gp i hi] at hj ⊢
  rw [ltk] at hj
  obtain ⟨a1, a2, a3⟩ := q1 i hi j hj
  obtain ⟨c1, c2⟩ := ctk i j hj
  have e : cR (uj b (av sh) i) j = (((av sh).getD i dH).takes.getD j 0).toNat := by show (nN _ j).chan.toNat = _; rw [c1]
  rw [c1, c2, e, gc _ (by omega), lc]
  refine ⟨a1, by omega, rfl, ?_⟩
  show Ar _ _ _ = _
  rw [cast _ a1]; exact a3
 ·rw [lp] at hi
  rw [gp i hi] at hj ⊢
  rw [lpt] at hj
  obtain ⟨a1, a2, a3⟩ := q2 i hi j hj
  obtain ⟨c1, c2⟩ := cpt i j hj
  have e : cC (uj b (av sh) i) j = (((av sh).getD i dH).puts.getD j 0).toNat := by show (uI _ j).chan.toNat = _; rw [c1]
  rw [c1, c2, e, gc _ (by omega), lc]
  refine ⟨a1, by omega, rfl, ?_⟩
  show Au _ _ _ = _
  rw [cast _ a1]; exact a3
 ·rw [lp] at hi
  rw [gp i hi] at hj hk he
  rw [ltk] at hj hk
  have a1 := (q1 i hi j hj).1
  have a2 := (q1 i hi k hk).1
  have e1 : cR (uj b (av sh) i) j = (((av sh).getD i dH).takes.getD j 0).toNat := by show (nN _ j).chan.toNat = _; rw [(ctk i j hj).1]
  have e2 : cR (uj b (av sh) i) k = (((av sh).getD i dH).takes.getD k 0).toNat := by show (nN _ k).chan.toNat = _; rw [(ctk i k hk).1]
  exact q3 i hi j hj k hk (by omega)
 ·rw [lp] at hi
  rw [gp i hi] at hj hk he
  rw [lpt] at hj hk
  have a1 := (q2 i hi j hj).1
  have a2 := (q2 i hi k hk).1
  have e1 : cC (uj b (av sh) i) j = (((av sh).getD i dH).puts.getD j 0).toNat := by show (uI _ j).chan.toNat = _; rw [(cpt i j hj).1]
  have e2 : cC (uj b (av sh) i) k = (((av sh).getD i dH).puts.getD k 0).toNat := by show (uI _ k).chan.toNat = _; rw [(cpt i k hk).1]
  exact q4 i hi j hj k hk (by omega)
 ·rw [lc] at hn
  rw [gc n hn]; rfl
 ·rw [lc] at hn
  rw [gc n hn]
  show (0 : Int) ≤ if _ then _ else _
  split
  ·exact Int.add_nonneg (by decide) (Int.emod_nonneg _ (by decide))
  ·exact Int.le_refl 0
end Go.Proofs.YtifoecfajmnjjaaGreat
