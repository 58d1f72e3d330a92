/-
  Made circuits are well made.
-/
import Derived.Test.YtgmpoenfoacofaaGreatQNeS
namespace Go.Proofs.YtgmpoenfoacofaaGreat
open Go.RowKit
set_option linter.unusedVariables false
set_option linter.unusedSimpArgs false
theorem B3 {s : Sg} {b : List Int} (hb : hJ b) (i : Nat) : eD s.sc (aL s b i).1 = some 1 ∧ fc (aL s b i).1 ≤ 3 := by
 unfold aL
 split
 ·have h := s5 (s := s) hb 2 (i + 1) 1 (by omega) (by omega) (by omega)
  exact ⟨h.1, by have := h.2.1; omega⟩
 ·exact ⟨rfl, by show fc f7 ≤ 3; decide⟩
theorem IV (y : Int) (f : Nat → Rg) (hf : ∀ k, (f k).w = bC y k) : (⟨(ao f (qC y)).map (·.w), [], []⟩ : Sc) = (Ja y).sc := by
 have : (ao f (qC y)).map (·.w) = I9 y := by
  unfold I9 ao
  rw [List.map_map]
  exact List.map_congr_left (fun k _ => hf k)
 rw [this]; rfl
theorem IW (y : Int) (n : Nat) (f : Nat → Rg) (g : Nat → Tk) (hf : ∀ k, (f k).w = bC y k) (hg : ∀ k, (g k).w = 2) : (⟨(ao f (qC y)).map (·.w), [], (ao g n).map (·.w)⟩ : Sc) = (yG y n).sc := by
 have e1 : (ao f (qC y)).map (·.w) = I9 y := by
  unfold I9 ao
  rw [List.map_map]
  exact List.map_congr_left (fun k _ => hf k)
 have e2 : (ao g n).map (·.w) = List.replicate n 2 := by
  apply List.ext_getElem
  ·simp [aJ]
  ·intro i h1 h2
   simp [ao, hg]
 rw [e1, e2]; rfl
theorem Hh {b : List Int} (hb : hJ b) {i : Nat} {nm : ByteArray} {e : En} (ht : e.takes.length ≤ 2) (hp : e.puts.length ≤ 2) : fL (bv b i nm e).1 := by
 have hy := dC hb i
 have hn := Ac hy.1
 have hs0 : LR (bv b i nm e).1 = (Ja (b.getD i 0)).sc := IV _ _ (fun k => rfl)
 have hs1 : oM (bv b i nm e).1 = (yG (b.getD i 0) e.takes.length).sc := IW _ _ _ _ (fun k => rfl) (fun k => rfl)
 have l1 : (bv b i nm e).1.regs.length = qC (b.getD i 0) := aJ _ _
 have l2 : (bv b i nm e).1.takes.length = e.takes.length := aJ _ _
 have l3 : (bv b i nm e).1.puts.length = e.puts.length := aJ _ _
 have l4 : (bv b i nm e).1.mems.length = 0 := rfl
 refine ⟨by omega, by omega, by omega, by omega, fun k hk => ?_, fun k hk => by omega, fun k hk => ?_, fun k hk => ?_⟩
 ·rw [hs1]
  rw [l1] at hk
  have e1 : CP (bv b i nm e).1 k = Lv b (b.getD i 0) e.takes.length (ln b i e) k := bh hk
  rw [e1]
  have hw := xf (b.getD i 0) k
  have h := s5 (s := yG (b.getD i 0) e.takes.length) hb 3 (xa b (b.getD i 0) e.takes.length (ln b i e) k) (bC (b.getD i 0) k) (by omega) (by omega) (by omega)
  refine ⟨aN.2 (by show 1 ≤ bC (b.getD i 0) k ∧ bC (b.getD i 0) k ≤ 8; omega), ?_, h.1, by have := h.2.1; show fc (ak _ b 3 _ _).1 ≤ 3; omega⟩
  show dq (b.getD i 0 / 8 % 2 ^ (bC (b.getD i 0) k).toNat) (bC (b.getD i 0) k)
  unfold dq
  rw [cf (by omega) (by omega)]
  have hp2 : (0 : Int) < 2 ^ (bC (b.getD i 0) k).toNat := Int.pow_pos (by omega)
  exact ⟨Int.emod_nonneg _ (by omega), by have := Int.emod_lt_of_pos (b.getD i 0 / 8) hp2; omega⟩
 ·rw [hs0]
  rw [l2] at hk
  have e1 : km (bv b i nm e).1 k = Dy b (b.getD i 0) (i + 1) e k := bh hk
  rw [e1]
  exact ⟨rfl, B3 hb _⟩
 ·rw [hs1]
  rw [l3] at hk
  have e1 : qT (bv b i nm e).1 k = F5 b (b.getD i 0) e.takes.length (kw b i e) e k := bh hk
  rw [e1]
  have h := s5 (s := yG (b.getD i 0) e.takes.length) hb 2 (aL (yG (b.getD i 0) e.takes.length) b (tQ b (b.getD i 0) e.takes.length (kw b i e) k)).2 2 (by omega) (by omega) (by omega)
  exact ⟨rfl, B3 hb _, h.1, by have := h.2.1; show fc (ak _ b 2 _ _).1 ≤ 3; omega⟩
def Kf (l : List En) : Prop := ∀ i, i < l.length → ∀ j, j < (l.getD i cH).takes.length → 0 ≤ (l.getD i cH).takes.getD j 0 ∧ (l.getD i cH).takes.getD j 0 < pp l l.length + 1 ∧ xw l ((l.getD i cH).takes.getD j 0) l.length = (i : Int)
def Kg (l : List En) : Prop := ∀ i, i < l.length → ∀ j, j < (l.getD i cH).puts.length → 0 ≤ (l.getD i cH).puts.getD j 0 ∧ (l.getD i cH).puts.getD j 0 < pp l l.length + 1 ∧ xh l ((l.getD i cH).puts.getD j 0) l.length = (i : Int)
def Kh (l : List En) : Prop := ∀ i, i < l.length → ∀ j, j < (l.getD i cH).takes.length → ∀ k, k < (l.getD i cH).takes.length → (l.getD i cH).takes.getD j 0 = (l.getD i cH).takes.getD k 0 → j = k
def Ki (l : List En) : Prop := ∀ i, i < l.length → ∀ j, j < (l.getD i cH).puts.length → ∀ k, k < (l.getD i cH).puts.length → (l.getD i cH).puts.getD j 0 = (l.getD i cH).puts.getD k 0 → j = k
theorem Kj (sh : Int) : Kf (aj sh) ∧ Kg (aj sh) ∧ Kh (aj sh) ∧ Ki (aj sh) := by
 unfold Kf Kg Kh Ki
 rcases im sh with h | h | h | h | h | h <;> rw [h] <;> decide
theorem B4 {sh : Int} {b : List Int} (h0 : 0 ≤ sh) (h1 : sh ≤ 255) (hb : hJ b) : a6 (aa sh b) := by
 have hpl := yJ sh
 have hnc := FK sh
 obtain ⟨q1, q2, q3, q4⟩ := Kj sh
 have lp : (aa sh b).procs.length = (aj sh).length := aJ _ _
 have lc : (aa sh b).chans.length = jp sh := aJ _ _
 have gp : ∀ i, i < (aj sh).length → bJ (aa sh b) i = ro b (aj sh) i := fun i hi => bh hi
 have gc : ∀ n, n < jp sh → cL (aa sh b) n = r7 sh (aj sh) n := fun n hn => bh hn
 have ltk : ∀ i, (ro b (aj sh) i).takes.length = ((aj sh).getD i cH).takes.length := fun i => aJ _ _
 have lpt : ∀ i, (ro b (aj sh) i).puts.length = ((aj sh).getD i cH).puts.length := fun i => aJ _ _
 have ctk : ∀ i j, j < ((aj sh).getD i cH).takes.length → (km (ro b (aj sh) i) j).chan = ((aj sh).getD i cH).takes.getD j 0 ∧ (km (ro b (aj sh) i) j).w = 2 := fun i j hj => by
  have : km (ro b (aj sh) i) j = Dy b _ _ ((aj sh).getD i cH) j := bh hj
  rw [this]; exact ⟨rfl, rfl⟩
 have cpt : ∀ i j, j < ((aj sh).getD i cH).puts.length → (qT (ro b (aj sh) i) j).chan = ((aj sh).getD i cH).puts.getD j 0 ∧ (qT (ro b (aj sh) i) j).w = 2 := fun i j hj => by
  have : qT (ro b (aj sh) i) j = F5 b _ _ _ ((aj sh).getD i cH) j := bh hj
  rw [this]; exact ⟨rfl, rfl⟩
 have cast : ∀ x : Int, 0 ≤ x → ((x.toNat : Nat) : Int) = x := fun x hx => by omega
 refine ⟨by omega, by omega, by omega, fun i hi => ?_, fun i hi j hj => ?_, fun i hi j hj => ?_, fun i hi j k hj hk he => ?_, fun i hi j k hj hk he => ?_, fun n hn => ?_, fun n hn => ?_⟩
 ·rw [lp] at hi
  rw [gp i hi]
  have he := mf sh i
  exact Hh hb he.1 he.2
 ·rw [lp] at hi
  rw [gp i hi] at hj ⊢
  rw [ltk] at hj
  obtain ⟨a1, a2, a3⟩ := q1 i hi j hj
  obtain ⟨c1, c2⟩ := ctk i j hj
  have e : uk (ro b (aj sh) i) j = (((aj sh).getD i cH).takes.getD j 0).toNat := by show (km _ j).chan.toNat = _; rw [c1]
  rw [c1, c2, e, gc _ (by omega), lc]
  refine ⟨a1, by omega, rfl, ?_⟩
  show xw _ _ _ = _
  rw [cast _ a1]; exact a3
 ·rw [lp] at hi
  rw [gp i hi] at hj ⊢
  rw [lpt] at hj
  obtain ⟨a1, a2, a3⟩ := q2 i hi j hj
  obtain ⟨c1, c2⟩ := cpt i j hj
  have e : t6 (ro b (aj sh) i) j = (((aj sh).getD i cH).puts.getD j 0).toNat := by show (qT _ j).chan.toNat = _; rw [c1]
  rw [c1, c2, e, gc _ (by omega), lc]
  refine ⟨a1, by omega, rfl, ?_⟩
  show xh _ _ _ = _
  rw [cast _ a1]; exact a3
 ·rw [lp] at hi
  rw [gp i hi] at hj hk he
  rw [ltk] at hj hk
  have a1 := (q1 i hi j hj).1
  have a2 := (q1 i hi k hk).1
  have e1 : uk (ro b (aj sh) i) j = (((aj sh).getD i cH).takes.getD j 0).toNat := by show (km _ j).chan.toNat = _; rw [(ctk i j hj).1]
  have e2 : uk (ro b (aj sh) i) k = (((aj sh).getD i cH).takes.getD k 0).toNat := by show (km _ k).chan.toNat = _; rw [(ctk i k hk).1]
  exact q3 i hi j hj k hk (by omega)
 ·rw [lp] at hi
  rw [gp i hi] at hj hk he
  rw [lpt] at hj hk
  have a1 := (q2 i hi j hj).1
  have a2 := (q2 i hi k hk).1
  have e1 : t6 (ro b (aj sh) i) j = (((aj sh).getD i cH).puts.getD j 0).toNat := by show (qT _ j).chan.toNat = _; rw [(cpt i j hj).1]
  have e2 : t6 (ro b (aj sh) i) k = (((aj sh).getD i cH).puts.getD k 0).toNat := by show (qT _ k).chan.toNat = _; rw [(cpt i k hk).1]
  exact q4 i hi j hj k hk (by omega)
 ·rw [lc] at hn
  rw [gc n hn]; rfl
 ·rw [lc] at hn
  rw [gc n hn]
  show (0 : Int) ≤ if _ then _ else _
  split
  ·exact Int.add_nonneg (by decide) (Int.emod_nonneg _ (by decide))
  ·exact Int.le_refl 0
end Go.Proofs.YtgmpoenfoacofaaGreat
