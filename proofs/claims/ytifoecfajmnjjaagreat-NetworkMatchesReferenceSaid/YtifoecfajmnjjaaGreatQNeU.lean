/-
  Made circuits are well made.
-/
import Derived.Test.YtifoecfajmnjjaaGreatQNeS
namespace Go.Proofs.YtifoecfajmnjjaaGreat
open Go.RowKit
set_option linter.unusedVariables false
set_option linter.unusedSimpArgs false
theorem BU {s : Sg} {b : List Int} (hb : lF b) (i : Nat) : eK s.sc (aR s b i).1 = some 1 ∧ ff (aR s b i).1 ≤ 3 := by
 unfold aR
 split
 ·have h := tg (s := s) hb 2 (i + 1) 1 (by omega) (by omega) (by omega)
  exact ⟨h.1, by have := h.2.1; omega⟩
 ·exact ⟨rfl, by show ff fA ≤ 3; decide⟩
theorem Ih (y : Int) (f : Nat → Rg) (hf : ∀ k, (f k).w = bI y k) : (⟨(aq f (rh y)).map (·.w), [], []⟩ : Sc) = (Iq y).sc := by
 have : (aq f (rh y)).map (·.w) = Ip y := by
  unfold Ip aq
  rw [List.map_map]
  exact List.map_congr_left (fun k _ => hf k)
 rw [this]; rfl
theorem Ii (y : Int) (n : Nat) (f : Nat → Rg) (g : Nat → Tk) (hf : ∀ k, (f k).w = bI y k) (hg : ∀ k, (g k).w = 2) : (⟨(aq f (rh y)).map (·.w), [], (aq g n).map (·.w)⟩ : Sc) = (yD y n).sc := by
 have e1 : (aq f (rh y)).map (·.w) = Ip y := by
  unfold Ip aq
  rw [List.map_map]
  exact List.map_congr_left (fun k _ => hf k)
 have e2 : (aq g n).map (·.w) = List.replicate n 2 := by
  apply List.ext_getElem
  ·simp [aO]
  ·intro i h1 h2
   simp [aq, hg]
 rw [e1, e2]; rfl
theorem GF {b : List Int} (hb : lF b) {i : Nat} {nm : ByteArray} {e : En} (ht : e.takes.length ≤ 2) (hp : e.puts.length ≤ 2) : fM (bC b i nm e).1 := by
 have hy := eC hb i
 have hn := Am hy.1
 have hs0 : Lg (bC b i nm e).1 = (Iq (b.getD i 0)).sc := Ih _ _ (fun k => rfl)
 have hs1 : pB (bC b i nm e).1 = (yD (b.getD i 0) e.takes.length).sc := Ii _ _ _ _ (fun k => rfl) (fun k => rfl)
 have l1 : (bC b i nm e).1.regs.length = rh (b.getD i 0) := aO _ _
 have l2 : (bC b i nm e).1.takes.length = e.takes.length := aO _ _
 have l3 : (bC b i nm e).1.puts.length = e.puts.length := aO _ _
 have l4 : (bC b i nm e).1.mems.length = 0 := rfl
 refine ⟨by omega, by omega, by omega, by omega, fun k hk => ?_, fun k hk => by omega, fun k hk => ?_, fun k hk => ?_⟩
 ·rw [hs1]
  rw [l1] at hk
  have e1 : Cs (bC b i nm e).1 k = KQ b (b.getD i 0) e.takes.length (l6 b i e) k := bq hk
  rw [e1]
  have hw := w9 (b.getD i 0) k
  have h := tg (s := yD (b.getD i 0) e.takes.length) hb 3 (wY b (b.getD i 0) e.takes.length (l6 b i e) k) (bI (b.getD i 0) k) (by omega) (by omega) (by omega)
  refine ⟨aW.2 (by show 1 ≤ bI (b.getD i 0) k ∧ bI (b.getD i 0) k ≤ 8; omega), ?_, h.1, by have := h.2.1; show ff (an _ b 3 _ _).1 ≤ 3; omega⟩
  show dD (b.getD i 0 / 8 % 2 ^ (bI (b.getD i 0) k).toNat) (bI (b.getD i 0) k)
  unfold dD
  rw [cA (by omega) (by omega)]
  have hp2 : (0 : Int) < 2 ^ (bI (b.getD i 0) k).toNat := Int.pow_pos (by omega)
  exact ⟨Int.emod_nonneg _ (by omega), by have := Int.emod_lt_of_pos (b.getD i 0 / 8) hp2; omega⟩
 ·rw [hs0]
  rw [l2] at hk
  have e1 : lG (bC b i nm e).1 k = Dg b (b.getD i 0) (i + 1) e k := bq hk
  rw [e1]
  exact ⟨rfl, BU hb _⟩
 ·rw [hs1]
  rw [l3] at hk
  have e1 : rO (bC b i nm e).1 k = FE b (b.getD i 0) e.takes.length (k9 b i e) e k := bq hk
  rw [e1]
  have h := tg (s := yD (b.getD i 0) e.takes.length) hb 2 (aR (yD (b.getD i 0) e.takes.length) b (tN b (b.getD i 0) e.takes.length (k9 b i e) k)).2 2 (by omega) (by omega) (by omega)
  exact ⟨rfl, BU hb _, h.1, by have := h.2.1; show ff (an _ b 2 _ _).1 ≤ 3; omega⟩
def JJ (l : List En) : Prop := ∀ i, i < l.length → ∀ j, j < (l.getD i cI).takes.length → 0 ≤ (l.getD i cI).takes.getD j 0 ∧ (l.getD i cI).takes.getD j 0 < qa l l.length + 1 ∧ xk l ((l.getD i cI).takes.getD j 0) l.length = (i : Int)
def JK (l : List En) : Prop := ∀ i, i < l.length → ∀ j, j < (l.getD i cI).puts.length → 0 ≤ (l.getD i cI).puts.getD j 0 ∧ (l.getD i cI).puts.getD j 0 < qa l l.length + 1 ∧ xl l ((l.getD i cI).puts.getD j 0) l.length = (i : Int)
def JL (l : List En) : Prop := ∀ i, i < l.length → ∀ j, j < (l.getD i cI).takes.length → ∀ k, k < (l.getD i cI).takes.length → (l.getD i cI).takes.getD j 0 = (l.getD i cI).takes.getD k 0 → j = k
def JM (l : List En) : Prop := ∀ i, i < l.length → ∀ j, j < (l.getD i cI).puts.length → ∀ k, k < (l.getD i cI).puts.length → (l.getD i cI).puts.getD j 0 = (l.getD i cI).puts.getD k 0 → j = k
theorem JN (sh : Int) : JJ (am sh) ∧ JK (am sh) ∧ JL (am sh) ∧ JM (am sh) := by
 unfold JJ JK JL JM
 rcases kG sh with h | h | h | h | h | h <;> rw [h] <;> decide
theorem JO {sh : Int} {b : List Int} (h0 : 0 ≤ sh) (h1 : sh ≤ 255) (hb : lF b) : bK (aa sh b) := by
 have hpl := yG sh
 have hnc := Fe sh
 obtain ⟨q1, q2, q3, q4⟩ := JN sh
 have lp : (aa sh b).procs.length = (am sh).length := aO _ _
 have lc : (aa sh b).chans.length = ld sh := aO _ _
 have gp : ∀ i, i < (am sh).length → bR (aa sh b) i = rI b (am sh) i := fun i hi => bq hi
 have gc : ∀ n, n < ld sh → fF (aa sh b) n = tW sh (am sh) n := fun n hn => bq hn
 have ltk : ∀ i, (rI b (am sh) i).takes.length = ((am sh).getD i cI).takes.length := fun i => aO _ _
 have lpt : ∀ i, (rI b (am sh) i).puts.length = ((am sh).getD i cI).puts.length := fun i => aO _ _
 have ctk : ∀ i j, j < ((am sh).getD i cI).takes.length → (lG (rI b (am sh) i) j).chan = ((am sh).getD i cI).takes.getD j 0 ∧ (lG (rI b (am sh) i) j).w = 2 := fun i j hj => by
  have : lG (rI b (am sh) i) j = Dg b _ _ ((am sh).getD i cI) j := bq hj
  rw [this]; exact ⟨rfl, rfl⟩
 have cpt : ∀ i j, j < ((am sh).getD i cI).puts.length → (rO (rI b (am sh) i) j).chan = ((am sh).getD i cI).puts.getD j 0 ∧ (rO (rI b (am sh) i) j).w = 2 := fun i j hj => by
  have : rO (rI b (am sh) i) j = FE b _ _ _ ((am sh).getD i cI) j := bq hj
  rw [this]; exact ⟨rfl, rfl⟩
 have cast : ∀ x : Int, 0 ≤ x → ((x.toNat : Nat) : Int) = x := fun x hx => by omega
 refine ⟨by omega, by omega, by omega, fun i hi => ?_, fun i hi j hj => ?_, fun i hi j hj => ?_, fun i hi j k hj hk he => ?_, fun i hi j k hj hk he => ?_, fun n hn => ?_, fun n hn => ?_⟩
 ·rw [lp] at hi
  rw [gp i hi]
  have he := mX sh i
  exact GF hb he.1 he.2
 ·rw [lp] at hi
  rw [gp i hi] at hj ⊢
  rw [ltk] at hj
  obtain ⟨a1, a2, a3⟩ := q1 i hi j hj
  obtain ⟨c1, c2⟩ := ctk i j hj
  have e : wz (rI b (am sh) i) j = (((am sh).getD i cI).takes.getD j 0).toNat := by show (lG _ j).chan.toNat = _; rw [c1]
  rw [c1, c2, e, gc _ (by omega), lc]
  refine ⟨a1, by omega, rfl, ?_⟩
  show xk _ _ _ = _
  rw [cast _ a1]; exact a3
 ·rw [lp] at hi
  rw [gp i hi] at hj ⊢
  rw [lpt] at hj
  obtain ⟨a1, a2, a3⟩ := q2 i hi j hj
  obtain ⟨c1, c2⟩ := cpt i j hj
  have e : u4 (rI b (am sh) i) j = (((am sh).getD i cI).puts.getD j 0).toNat := by show (rO _ j).chan.toNat = _; rw [c1]
  rw [c1, c2, e, gc _ (by omega), lc]
  refine ⟨a1, by omega, rfl, ?_⟩
  show xl _ _ _ = _
  rw [cast _ a1]; exact a3
 ·rw [lp] at hi
  rw [gp i hi] at hj hk he
  rw [ltk] at hj hk
  have a1 := (q1 i hi j hj).1
  have a2 := (q1 i hi k hk).1
  have e1 : wz (rI b (am sh) i) j = (((am sh).getD i cI).takes.getD j 0).toNat := by show (lG _ j).chan.toNat = _; rw [(ctk i j hj).1]
  have e2 : wz (rI b (am sh) i) k = (((am sh).getD i cI).takes.getD k 0).toNat := by show (lG _ k).chan.toNat = _; rw [(ctk i k hk).1]
  exact q3 i hi j hj k hk (by omega)
 ·rw [lp] at hi
  rw [gp i hi] at hj hk he
  rw [lpt] at hj hk
  have a1 := (q2 i hi j hj).1
  have a2 := (q2 i hi k hk).1
  have e1 : u4 (rI b (am sh) i) j = (((am sh).getD i cI).puts.getD j 0).toNat := by show (rO _ j).chan.toNat = _; rw [(cpt i j hj).1]
  have e2 : u4 (rI b (am sh) i) k = (((am sh).getD i cI).puts.getD k 0).toNat := by show (rO _ k).chan.toNat = _; rw [(cpt i k hk).1]
  exact q4 i hi j hj k hk (by omega)
 ·rw [lc] at hn
  rw [gc n hn]; rfl
 ·rw [lc] at hn
  rw [gc n hn]
  show (0 : Int) ≤ if _ then _ else _
  split
  ·exact Int.add_nonneg (by decide) (Int.emod_nonneg _ (by decide))
  ·exact Int.le_refl 0
end Go.Proofs.YtifoecfajmnjjaaGreat
