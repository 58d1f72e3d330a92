/-
  Made circuits are well made.
-/
import Derived.Test.YtifoecfajmnjjaaGreatQNeS
namespace Go.Proofs.YtifoecfajmnjjaaGreat
open Go.RowKit
set_option linter.unusedVariables false
set_option linter.unusedSimpArgs false
theorem AQ {s : Sg} {b : List Int} (hb : lr b) (i : Nat) : eH s.sc (aU s b i).1 = some 1 ∧ fq (aU s b i).1 ≤ 3 := by
 unfold aU
 split
 ·have h := sG (s := s) hb 2 (i + 1) 1 (by omega) (by omega) (by omega)
  exact ⟨h.1, by have := h.2.1; omega⟩
 ·exact ⟨rfl, by show fq fF ≤ 3; decide⟩
theorem GV (y : Int) (f : Nat → Rg) (hf : ∀ k, (f k).w = bH y k) : (⟨(an f (qJ y)).map (·.w), [], []⟩ : Sc) = (G3 y).sc := by
 have : (an f (qJ y)).map (·.w) = G2 y := by
  unfold G2 an
  rw [List.map_map]
  exact List.map_congr_left (fun k _ => hf k)
 rw [this]; rfl
theorem GW (y : Int) (n : Nat) (f : Nat → Rg) (g : Nat → Tk) (hf : ∀ k, (f k).w = bH y k) (hg : ∀ k, (g k).w = 2) : (⟨(an f (qJ y)).map (·.w), [], (an g n).map (·.w)⟩ : Sc) = (xD y n).sc := by
 have e1 : (an f (qJ y)).map (·.w) = G2 y := by
  unfold G2 an
  rw [List.map_map]
  exact List.map_congr_left (fun k _ => hf k)
 have e2 : (an g n).map (·.w) = List.replicate n 2 := by
  apply List.ext_getElem
  ·simp [aM]
  ·intro i h1 h2
   simp [an, hg]
 rw [e1, e2]; rfl
theorem Fv {b : List Int} (hb : lr b) {i : Nat} {nm : ByteArray} {e : En} (ht : e.takes.length ≤ 2) (hp : e.puts.length ≤ 2) : fS (bC b i nm e).1 := by
 have hy := ez hb i
 have hn := zg hy.1
 have hs0 : JV (bC b i nm e).1 = (G3 (b.getD i 0)).sc := GV _ _ (fun k => rfl)
 have hs1 : pj (bC b i nm e).1 = (xD (b.getD i 0) e.takes.length).sc := GW _ _ _ _ (fun k => rfl) (fun k => rfl)
 have l1 : (bC b i nm e).1.regs.length = qJ (b.getD i 0) := aM _ _
 have l2 : (bC b i nm e).1.takes.length = e.takes.length := aM _ _
 have l3 : (bC b i nm e).1.puts.length = e.puts.length := aM _ _
 have l4 : (bC b i nm e).1.mems.length = 0 := rfl
 refine ⟨by omega, by omega, by omega, by omega, fun k hk => ?_, fun k hk => by omega, fun k hk => ?_, fun k hk => ?_⟩
 ·rw [hs1]
  rw [l1] at hk
  have e1 : Bl (bC b i nm e).1 k = Jw b (b.getD i 0) e.takes.length (lN b i e) k := bA hk
  rw [e1]
  have hw := v7 (b.getD i 0) k
  have h := sG (s := xD (b.getD i 0) e.takes.length) hb 3 (v3 b (b.getD i 0) e.takes.length (lN b i e) k) (bH (b.getD i 0) k) (by omega) (by omega) (by omega)
  refine ⟨aW.2 (by show 1 ≤ bH (b.getD i 0) k ∧ bH (b.getD i 0) k ≤ 8; omega), ?_, h.1, by have := h.2.1; show fq (aq _ b 3 _ _).1 ≤ 3; omega⟩
  show dG (b.getD i 0 / 8 % 2 ^ (bH (b.getD i 0) k).toNat) (bH (b.getD i 0) k)
  unfold dG
  rw [cC (by omega) (by omega)]
  have hp2 : (0 : Int) < 2 ^ (bH (b.getD i 0) k).toNat := Int.pow_pos (by omega)
  exact ⟨Int.emod_nonneg _ (by omega), by have := Int.emod_lt_of_pos (b.getD i 0 / 8) hp2; omega⟩
 ·rw [hs0]
  rw [l2] at hk
  have e1 : kS (bC b i nm e).1 k = BX b (b.getD i 0) (i + 1) e k := bA hk
  rw [e1]
  exact ⟨rfl, AQ hb _⟩
 ·rw [hs1]
  rw [l3] at hk
  have e1 : qW (bC b i nm e).1 k = Eu b (b.getD i 0) e.takes.length (kQ b i e) e k := bA hk
  rw [e1]
  have h := sG (s := xD (b.getD i 0) e.takes.length) hb 2 (aU (xD (b.getD i 0) e.takes.length) b (tc b (b.getD i 0) e.takes.length (kQ b i e) k)).2 2 (by omega) (by omega) (by omega)
  exact ⟨rfl, AQ hb _, h.1, by have := h.2.1; show fq (aq _ b 2 _ _).1 ≤ 3; omega⟩
def Ib (l : List En) : Prop := ∀ i, i < l.length → ∀ j, j < (l.getD i cM).takes.length → 0 ≤ (l.getD i cM).takes.getD j 0 ∧ (l.getD i cM).takes.getD j 0 < pN l l.length + 1 ∧ wj l ((l.getD i cM).takes.getD j 0) l.length = (i : Int)
def Ic (l : List En) : Prop := ∀ i, i < l.length → ∀ j, j < (l.getD i cM).puts.length → 0 ≤ (l.getD i cM).puts.getD j 0 ∧ (l.getD i cM).puts.getD j 0 < pN l l.length + 1 ∧ wk l ((l.getD i cM).puts.getD j 0) l.length = (i : Int)
def Ie (l : List En) : Prop := ∀ i, i < l.length → ∀ j, j < (l.getD i cM).takes.length → ∀ k, k < (l.getD i cM).takes.length → (l.getD i cM).takes.getD j 0 = (l.getD i cM).takes.getD k 0 → j = k
def Ig (l : List En) : Prop := ∀ i, i < l.length → ∀ j, j < (l.getD i cM).puts.length → ∀ k, k < (l.getD i cM).puts.length → (l.getD i cM).puts.getD j 0 = (l.getD i cM).puts.getD k 0 → j = k
theorem Ih (sh : Int) : Ib (ao sh) ∧ Ic (ao sh) ∧ Ie (ao sh) ∧ Ig (ao sh) := by
 unfold Ib Ic Ie Ig
 rcases kB sh with h | h | h | h | h | h <;> rw [h] <;> decide
theorem Ii {sh : Int} {b : List Int} (h0 : 0 ≤ sh) (h1 : sh ≤ 255) (hb : lr b) : bR (aa sh b) := by
 have hpl := xG sh
 have hnc := D3 sh
 obtain ⟨q1, q2, q3, q4⟩ := Ih sh
 have lp : (aa sh b).procs.length = (ao sh).length := aM _ _
 have lc : (aa sh b).chans.length = kR sh := aM _ _
 have gp : ∀ i, i < (ao sh).length → ay (aa sh b) i = rf b (ao sh) i := fun i hi => bA hi
 have gc : ∀ n, n < kR sh → gx (aa sh b) n = tn sh (ao sh) n := fun n hn => bA hn
 have ltk : ∀ i, (rf b (ao sh) i).takes.length = ((ao sh).getD i cM).takes.length := fun i => aM _ _
 have lpt : ∀ i, (rf b (ao sh) i).puts.length = ((ao sh).getD i cM).puts.length := fun i => aM _ _
 have ctk : ∀ i j, j < ((ao sh).getD i cM).takes.length → (kS (rf b (ao sh) i) j).chan = ((ao sh).getD i cM).takes.getD j 0 ∧ (kS (rf b (ao sh) i) j).w = 2 := fun i j hj => by
  have : kS (rf b (ao sh) i) j = BX b _ _ ((ao sh).getD i cM) j := bA hj
  rw [this]; exact ⟨rfl, rfl⟩
 have cpt : ∀ i j, j < ((ao sh).getD i cM).puts.length → (qW (rf b (ao sh) i) j).chan = ((ao sh).getD i cM).puts.getD j 0 ∧ (qW (rf b (ao sh) i) j).w = 2 := fun i j hj => by
  have : qW (rf b (ao sh) i) j = Eu b _ _ _ ((ao sh).getD i cM) j := bA hj
  rw [this]; exact ⟨rfl, rfl⟩
 have cast : ∀ x : Int, 0 ≤ x → ((x.toNat : Nat) : Int) = x := fun x hx => by omega
 refine ⟨by omega, by omega, by omega, fun i hi => ?_, fun i hi j hj => ?_, fun i hi j hj => ?_, fun i hi j k hj hk he => ?_, fun i hi j k hj hk he => ?_, fun n hn => ?_, fun n hn => ?_⟩
 ·rw [lp] at hi
  rw [gp i hi]
  have he := mK sh i
  exact Fv hb he.1 he.2
 ·rw [lp] at hi
  rw [gp i hi] at hj ⊢
  rw [ltk] at hj
  obtain ⟨a1, a2, a3⟩ := q1 i hi j hj
  obtain ⟨c1, c2⟩ := ctk i j hj
  have e : cf (rf b (ao sh) i) j = (((ao sh).getD i cM).takes.getD j 0).toNat := by show (kS _ j).chan.toNat = _; rw [c1]
  rw [c1, c2, e, gc _ (by omega), lc]
  refine ⟨a1, by omega, rfl, ?_⟩
  show wj _ _ _ = _
  rw [cast _ a1]; exact a3
 ·rw [lp] at hi
  rw [gp i hi] at hj ⊢
  rw [lpt] at hj
  obtain ⟨a1, a2, a3⟩ := q2 i hi j hj
  obtain ⟨c1, c2⟩ := cpt i j hj
  have e : bP (rf b (ao sh) i) j = (((ao sh).getD i cM).puts.getD j 0).toNat := by show (qW _ j).chan.toNat = _; rw [c1]
  rw [c1, c2, e, gc _ (by omega), lc]
  refine ⟨a1, by omega, rfl, ?_⟩
  show wk _ _ _ = _
  rw [cast _ a1]; exact a3
 ·rw [lp] at hi
  rw [gp i hi] at hj hk he
  rw [ltk] at hj hk
  have a1 := (q1 i hi j hj).1
  have a2 := (q1 i hi k hk).1
  have e1 : cf (rf b (ao sh) i) j = (((ao sh).getD i cM).takes.getD j 0).toNat := by show (kS _ j).chan.toNat = _; rw [(ctk i j hj).1]
  have e2 : cf (rf b (ao sh) i) k = (((ao sh).getD i cM).takes.getD k 0).toNat := by show (kS _ k).chan.toNat = _; rw [(ctk i k hk).1]
  exact q3 i hi j hj k hk (by omega)
 ·rw [lp] at hi
  rw [gp i hi] at hj hk he
  rw [lpt] at hj hk
  have a1 := (q2 i hi j hj).1
  have a2 := (q2 i hi k hk).1
  have e1 : bP (rf b (ao sh) i) j = (((ao sh).getD i cM).puts.getD j 0).toNat := by show (qW _ j).chan.toNat = _; rw [(cpt i j hj).1]
  have e2 : bP (rf b (ao sh) i) k = (((ao sh).getD i cM).puts.getD k 0).toNat := by show (qW _ k).chan.toNat = _; rw [(cpt i k hk).1]
  exact q4 i hi j hj k hk (by omega)
 ·rw [lc] at hn
  rw [gc n hn]; rfl
 ·rw [lc] at hn
  rw [gc n hn]
  show (0 : Int) ≤ if _ then _ else _
  split
  ·exact Int.add_nonneg (by decide) (Int.emod_nonneg _ (by decide))
  ·exact Int.le_refl 0
end Go.Proofs.YtifoecfajmnjjaaGreat
