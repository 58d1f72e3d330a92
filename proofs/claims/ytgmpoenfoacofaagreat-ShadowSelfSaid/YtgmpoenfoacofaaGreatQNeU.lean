/-
  Made circuits are well made.
-/
import Derived.Test.YtgmpoenfoacofaaGreatQNeS
namespace Go.Proofs.YtgmpoenfoacofaaGreat
open Go.RowKit
set_option linter.unusedVariables false
set_option linter.unusedSimpArgs false
theorem CX {s : Sg} {b : List Int} (hb : ik b) (i : Nat) : eJ s.sc (aL s b i).1 = some 1 ∧ fk (aL s b i).1 ≤ 3 := by
 unfold aL
 split
 ·have h := tT (s := s) hb 2 (i + 1) 1 (by omega) (by omega) (by omega)
  exact ⟨h.1, by have := h.2.1; omega⟩
 ·exact ⟨rfl, by show fk fJ ≤ 3; decide⟩
theorem JH (y : Int) (f : Nat → Rg) (hf : ∀ k, (f k).w = bB y k) : (⟨(tab f (rb y)).map (·.w), [], []⟩ : Sc) = (JU y).sc := by
 have : (tab f (rb y)).map (·.w) = JT y := by
  unfold JT tab
  rw [List.map_map]
  exact List.map_congr_left (fun k _ => hf k)
 rw [this]; rfl
theorem JI (y : Int) (n : Nat) (f : Nat → Rg) (g : Nat → Tk) (hf : ∀ k, (f k).w = bB y k) (hg : ∀ k, (g k).w = 2) : (⟨(tab f (rb y)).map (·.w), [], (tab g n).map (·.w)⟩ : Sc) = (zA y n).sc := by
 have e1 : (tab f (rb y)).map (·.w) = JT y := by
  unfold JT tab
  rw [List.map_map]
  exact List.map_congr_left (fun k _ => hf k)
 have e2 : (tab g n).map (·.w) = List.replicate n 2 := by
  apply List.ext_getElem
  ·simp [aJ]
  ·intro i h1 h2
   simp [tab, hg]
 rw [e1, e2]; rfl
theorem HY {b : List Int} (hb : ik b) {i : Nat} {nm : ByteArray} {e : En} (ht : e.takes.length ≤ 2) (hp : e.puts.length ≤ 2) : fV (bu b i nm e).1 := by
 have hy := dH hb i
 have hn := A5 hy.1
 have hs0 : ME (bu b i nm e).1 = (JU (b.getD i 0)).sc := JH _ _ (fun k => rfl)
 have hs1 : pj (bu b i nm e).1 = (zA (b.getD i 0) e.takes.length).sc := JI _ _ _ _ (fun k => rfl) (fun k => rfl)
 have l1 : (bu b i nm e).1.regs.length = rb (b.getD i 0) := aJ _ _
 have l2 : (bu b i nm e).1.takes.length = e.takes.length := aJ _ _
 have l3 : (bu b i nm e).1.puts.length = e.puts.length := aJ _ _
 have l4 : (bu b i nm e).1.mems.length = 0 := rfl
 refine ⟨by omega, by omega, by omega, by omega, fun k hk => ?_, fun k hk => by omega, fun k hk => ?_, fun k hk => ?_⟩
 ·rw [hs1]
  rw [l1] at hk
  have e1 : DC (bu b i nm e).1 k = Mi b (b.getD i 0) e.takes.length (lM b i e) k := bj hk
  rw [e1]
  have hw := x6 (b.getD i 0) k
  have h := tT (s := zA (b.getD i 0) e.takes.length) hb 3 (xY b (b.getD i 0) e.takes.length (lM b i e) k) (bB (b.getD i 0) k) (by omega) (by omega) (by omega)
  refine ⟨aP.2 (by show 1 ≤ bB (b.getD i 0) k ∧ bB (b.getD i 0) k ≤ 8; omega), ?_, h.1, by have := h.2.1; show fk (ak _ b 3 _ _).1 ≤ 3; omega⟩
  show dz (b.getD i 0 / 8 % 2 ^ (bB (b.getD i 0) k).toNat) (bB (b.getD i 0) k)
  unfold dz
  rw [ci (by omega) (by omega)]
  have hp2 : (0 : Int) < 2 ^ (bB (b.getD i 0) k).toNat := Int.pow_pos (by omega)
  exact ⟨Int.emod_nonneg _ (by omega), by have := Int.emod_lt_of_pos (b.getD i 0 / 8) hp2; omega⟩
 ·rw [hs0]
  rw [l2] at hk
  have e1 : kJ (bu b i nm e).1 k = Ej b (b.getD i 0) (i + 1) e k := bj hk
  rw [e1]
  exact ⟨rfl, CX hb _⟩
 ·rw [hs1]
  rw [l3] at hk
  have e1 : rD (bu b i nm e).1 k = GN b (b.getD i 0) e.takes.length (kR b i e) e k := bj hk
  rw [e1]
  have h := tT (s := zA (b.getD i 0) e.takes.length) hb 2 (aL (zA (b.getD i 0) e.takes.length) b (uH b (b.getD i 0) e.takes.length (kR b i e) k)).2 2 (by omega) (by omega) (by omega)
  exact ⟨rfl, CX hb _, h.1, by have := h.2.1; show fk (ak _ b 2 _ _).1 ≤ 3; omega⟩
def KY (l : List En) : Prop := ∀ i, i < l.length → ∀ j, j < (l.getD i cI).takes.length → 0 ≤ (l.getD i cI).takes.getD j 0 ∧ (l.getD i cI).takes.getD j 0 < pR l l.length + 1 ∧ ym l ((l.getD i cI).takes.getD j 0) l.length = (i : Int)
def KZ (l : List En) : Prop := ∀ i, i < l.length → ∀ j, j < (l.getD i cI).puts.length → 0 ≤ (l.getD i cI).puts.getD j 0 ∧ (l.getD i cI).puts.getD j 0 < pR l l.length + 1 ∧ x8 l ((l.getD i cI).puts.getD j 0) l.length = (i : Int)
def K0 (l : List En) : Prop := ∀ i, i < l.length → ∀ j, j < (l.getD i cI).takes.length → ∀ k, k < (l.getD i cI).takes.length → (l.getD i cI).takes.getD j 0 = (l.getD i cI).takes.getD k 0 → j = k
def K1 (l : List En) : Prop := ∀ i, i < l.length → ∀ j, j < (l.getD i cI).puts.length → ∀ k, k < (l.getD i cI).puts.length → (l.getD i cI).puts.getD j 0 = (l.getD i cI).puts.getD k 0 → j = k
theorem K2 (sh : Int) : KY (aj sh) ∧ KZ (aj sh) ∧ K0 (aj sh) ∧ K1 (aj sh) := by
 unfold KY KZ K0 K1
 rcases iA sh with h | h | h | h | h | h <;> rw [h] <;> decide
theorem CY {sh : Int} {b : List Int} (h0 : 0 ≤ sh) (h1 : sh ≤ 255) (hb : ik b) : a8 (aa sh b) := by
 have hpl := zD sh
 have hnc := Gr sh
 obtain ⟨q1, q2, q3, q4⟩ := K2 sh
 have lp : (aa sh b).procs.length = (aj sh).length := aJ _ _
 have lc : (aa sh b).chans.length = jJ sh := aJ _ _
 have gp : ∀ i, i < (aj sh).length → bI (aa sh b) i = rV b (aj sh) i := fun i hi => bj hi
 have gc : ∀ n, n < jJ sh → cL (aa sh b) n = sM sh (aj sh) n := fun n hn => bj hn
 have ltk : ∀ i, (rV b (aj sh) i).takes.length = ((aj sh).getD i cI).takes.length := fun i => aJ _ _
 have lpt : ∀ i, (rV b (aj sh) i).puts.length = ((aj sh).getD i cI).puts.length := fun i => aJ _ _
 have ctk : ∀ i j, j < ((aj sh).getD i cI).takes.length → (kJ (rV b (aj sh) i) j).chan = ((aj sh).getD i cI).takes.getD j 0 ∧ (kJ (rV b (aj sh) i) j).w = 2 := fun i j hj => by
  have : kJ (rV b (aj sh) i) j = Ej b _ _ ((aj sh).getD i cI) j := bj hj
  rw [this]; exact ⟨rfl, rfl⟩
 have cpt : ∀ i j, j < ((aj sh).getD i cI).puts.length → (rD (rV b (aj sh) i) j).chan = ((aj sh).getD i cI).puts.getD j 0 ∧ (rD (rV b (aj sh) i) j).w = 2 := fun i j hj => by
  have : rD (rV b (aj sh) i) j = GN b _ _ _ ((aj sh).getD i cI) j := bj hj
  rw [this]; exact ⟨rfl, rfl⟩
 have cast : ∀ x : Int, 0 ≤ x → ((x.toNat : Nat) : Int) = x := fun x hx => by omega
 refine ⟨by omega, by omega, by omega, fun i hi => ?_, fun i hi j hj => ?_, fun i hi j hj => ?_, fun i hi j k hj hk he => ?_, fun i hi j k hj hk he => ?_, fun n hn => ?_, fun n hn => ?_⟩
 ·rw [lp] at hi
  rw [gp i hi]
  have he := mH sh i
  exact HY hb he.1 he.2
 ·rw [lp] at hi
  rw [gp i hi] at hj ⊢
  rw [ltk] at hj
  obtain ⟨a1, a2, a3⟩ := q1 i hi j hj
  obtain ⟨c1, c2⟩ := ctk i j hj
  have e : vb (rV b (aj sh) i) j = (((aj sh).getD i cI).takes.getD j 0).toNat := by show (kJ _ j).chan.toNat = _; rw [c1]
  rw [c1, c2, e, gc _ (by omega), lc]
  refine ⟨a1, by omega, rfl, ?_⟩
  show ym _ _ _ = _
  rw [cast _ a1]; exact a3
 ·rw [lp] at hi
  rw [gp i hi] at hj ⊢
  rw [lpt] at hj
  obtain ⟨a1, a2, a3⟩ := q2 i hi j hj
  obtain ⟨c1, c2⟩ := cpt i j hj
  have e : uW (rV b (aj sh) i) j = (((aj sh).getD i cI).puts.getD j 0).toNat := by show (rD _ j).chan.toNat = _; rw [c1]
  rw [c1, c2, e, gc _ (by omega), lc]
  refine ⟨a1, by omega, rfl, ?_⟩
  show x8 _ _ _ = _
  rw [cast _ a1]; exact a3
 ·rw [lp] at hi
  rw [gp i hi] at hj hk he
  rw [ltk] at hj hk
  have a1 := (q1 i hi j hj).1
  have a2 := (q1 i hi k hk).1
  have e1 : vb (rV b (aj sh) i) j = (((aj sh).getD i cI).takes.getD j 0).toNat := by show (kJ _ j).chan.toNat = _; rw [(ctk i j hj).1]
  have e2 : vb (rV b (aj sh) i) k = (((aj sh).getD i cI).takes.getD k 0).toNat := by show (kJ _ k).chan.toNat = _; rw [(ctk i k hk).1]
  exact q3 i hi j hj k hk (by omega)
 ·rw [lp] at hi
  rw [gp i hi] at hj hk he
  rw [lpt] at hj hk
  have a1 := (q2 i hi j hj).1
  have a2 := (q2 i hi k hk).1
  have e1 : uW (rV b (aj sh) i) j = (((aj sh).getD i cI).puts.getD j 0).toNat := by show (rD _ j).chan.toNat = _; rw [(cpt i j hj).1]
  have e2 : uW (rV b (aj sh) i) k = (((aj sh).getD i cI).puts.getD k 0).toNat := by show (rD _ k).chan.toNat = _; rw [(cpt i k hk).1]
  exact q4 i hi j hj k hk (by omega)
 ·rw [lc] at hn
  rw [gc n hn]; rfl
 ·rw [lc] at hn
  rw [gc n hn]
  show (0 : Int) ≤ if _ then _ else _
  split
  ·exact Int.add_nonneg (by decide) (Int.emod_nonneg _ (by decide))
  ·exact Int.le_refl 0
end Go.Proofs.YtgmpoenfoacofaaGreat
