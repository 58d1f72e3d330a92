/-
  Made circuits are well made.
-/
import Derived.Test.YtgmpoenfoacofaaGreatQNeS
namespace Go.Proofs.YtgmpoenfoacofaaGreat
open Go.RowKit
set_option linter.unusedVariables false
set_option linter.unusedSimpArgs false
theorem DX {s : Sg} {b : List Int} (hb : gR b) (i : Nat) : eT s.sc (aN s b i).1 = some 1 ∧ fF (aN s b i).1 ≤ 3 := by
 unfold aN
 split
 ·have h := uZ (s := s) hb 2 (i + 1) 1 (by omega) (by omega) (by omega)
  exact ⟨h.1, by have := h.2.1; omega⟩
 ·exact ⟨rfl, by show fF fZ ≤ 3; decide⟩
theorem KM (y : Int) (f : Nat → Rg) (hf : ∀ k, (f k).w = bE y k) : (⟨(tab f (sd y)).map (·.w), [], []⟩ : Sc) = (K1 y).sc := by
 have : (tab f (sd y)).map (·.w) = K0 y := by
  unfold K0 tab
  rw [List.map_map]
  exact List.map_congr_left (fun k _ => hf k)
 rw [this]; rfl
theorem KN (y : Int) (n : Nat) (f : Nat → Rg) (g : Nat → Tk) (hf : ∀ k, (f k).w = bE y k) (hg : ∀ k, (g k).w = 2) : (⟨(tab f (sd y)).map (·.w), [], (tab g n).map (·.w)⟩ : Sc) = (Az y n).sc := by
 have e1 : (tab f (sd y)).map (·.w) = K0 y := by
  unfold K0 tab
  rw [List.map_map]
  exact List.map_congr_left (fun k _ => hf k)
 have e2 : (tab g n).map (·.w) = List.replicate n 2 := by
  apply List.ext_getElem
  ·simp [aR]
  ·intro i h1 h2
   simp [tab, hg]
 rw [e1, e2]; rfl
theorem Jd {b : List Int} (hb : gR b) {i : Nat} {nm : ByteArray} {e : En} (ht : e.takes.length ≤ 2) (hp : e.puts.length ≤ 2) : gm (bw b i nm e).1 := by
 have hy := dD hb i
 have hn := B2 hy.1
 have hs0 : NX (bw b i nm e).1 = (K1 (b.getD i 0)).sc := KM _ _ (fun k => rfl)
 have hs1 : qf (bw b i nm e).1 = (Az (b.getD i 0) e.takes.length).sc := KN _ _ _ _ (fun k => rfl) (fun k => rfl)
 have l1 : (bw b i nm e).1.regs.length = sd (b.getD i 0) := aR _ _
 have l2 : (bw b i nm e).1.takes.length = e.takes.length := aR _ _
 have l3 : (bw b i nm e).1.puts.length = e.puts.length := aR _ _
 have l4 : (bw b i nm e).1.mems.length = 0 := rfl
 refine ⟨by omega, by omega, by omega, by omega, fun k hk => ?_, fun k hk => by omega, fun k hk => ?_, fun k hk => ?_⟩
 ·rw [hs1]
  rw [l1] at hk
  have e1 : ED (bw b i nm e).1 k = NA b (b.getD i 0) e.takes.length (mC b i e) k := bn hk
  rw [e1]
  have hw := yX (b.getD i 0) k
  have h := uZ (s := Az (b.getD i 0) e.takes.length) hb 3 (yT b (b.getD i 0) e.takes.length (mC b i e) k) (bE (b.getD i 0) k) (by omega) (by omega) (by omega)
  refine ⟨aU.2 (by show 1 ≤ bE (b.getD i 0) k ∧ bE (b.getD i 0) k ≤ 8; omega), ?_, h.1, by have := h.2.1; show fF (am _ b 3 _ _).1 ≤ 3; omega⟩
  show dq (b.getD i 0 / 8 % 2 ^ (bE (b.getD i 0) k).toNat) (bE (b.getD i 0) k)
  unfold dq
  rw [ck (by omega) (by omega)]
  have hp2 : (0 : Int) < 2 ^ (bE (b.getD i 0) k).toNat := Int.pow_pos (by omega)
  exact ⟨Int.emod_nonneg _ (by omega), by have := Int.emod_lt_of_pos (b.getD i 0 / 8) hp2; omega⟩
 ·rw [hs0]
  rw [l2] at hk
  have e1 : lz (bw b i nm e).1 k = Fv b (b.getD i 0) (i + 1) e k := bn hk
  rw [e1]
  exact ⟨rfl, DX hb _⟩
 ·rw [hs1]
  rw [l3] at hk
  have e1 : sB (bw b i nm e).1 k = HR b (b.getD i 0) e.takes.length (lI b i e) e k := bn hk
  rw [e1]
  have h := uZ (s := Az (b.getD i 0) e.takes.length) hb 2 (aN (Az (b.getD i 0) e.takes.length) b (vI b (b.getD i 0) e.takes.length (lI b i e) k)).2 2 (by omega) (by omega) (by omega)
  exact ⟨rfl, DX hb _, h.1, by have := h.2.1; show fF (am _ b 2 _ _).1 ≤ 3; omega⟩
def Mh (l : List En) : Prop := ∀ i, i < l.length → ∀ j, j < (l.getD i cG).takes.length → 0 ≤ (l.getD i cG).takes.getD j 0 ∧ (l.getD i cG).takes.getD j 0 < qN l l.length + 1 ∧ zh l ((l.getD i cG).takes.getD j 0) l.length = (i : Int)
def Mi (l : List En) : Prop := ∀ i, i < l.length → ∀ j, j < (l.getD i cG).puts.length → 0 ≤ (l.getD i cG).puts.getD j 0 ∧ (l.getD i cG).puts.getD j 0 < qN l l.length + 1 ∧ zi l ((l.getD i cG).puts.getD j 0) l.length = (i : Int)
def Mj (l : List En) : Prop := ∀ i, i < l.length → ∀ j, j < (l.getD i cG).takes.length → ∀ k, k < (l.getD i cG).takes.length → (l.getD i cG).takes.getD j 0 = (l.getD i cG).takes.getD k 0 → j = k
def Ml (l : List En) : Prop := ∀ i, i < l.length → ∀ j, j < (l.getD i cG).puts.length → ∀ k, k < (l.getD i cG).puts.length → (l.getD i cG).puts.getD j 0 = (l.getD i cG).puts.getD k 0 → j = k
theorem Mn (sh : Int) : Mh (ak sh) ∧ Mi (ak sh) ∧ Mj (ak sh) ∧ Ml (ak sh) := by
 unfold Mh Mi Mj Ml
 rcases lf sh with h | h | h | h | h | h <;> rw [h] <;> decide
theorem vO {sh : Int} {b : List Int} (h0 : 0 ≤ sh) (h1 : sh ≤ 255) (hb : gR b) : bo (aa sh b) := by
 have hpl := AC sh
 have hnc := Hu sh
 obtain ⟨q1, q2, q3, q4⟩ := Mn sh
 have lp : (aa sh b).procs.length = (ak sh).length := aR _ _
 have lc : (aa sh b).chans.length = lJ sh := aR _ _
 have gp : ∀ i, i < (ak sh).length → bH (aa sh b) i = sU b (ak sh) i := fun i hi => bn hi
 have gc : ∀ n, n < lJ sh → dt (aa sh b) n = vK sh (ak sh) n := fun n hn => bn hn
 have ltk : ∀ i, (sU b (ak sh) i).takes.length = ((ak sh).getD i cG).takes.length := fun i => aR _ _
 have lpt : ∀ i, (sU b (ak sh) i).puts.length = ((ak sh).getD i cG).puts.length := fun i => aR _ _
 have ctk : ∀ i j, j < ((ak sh).getD i cG).takes.length → (lz (sU b (ak sh) i) j).chan = ((ak sh).getD i cG).takes.getD j 0 ∧ (lz (sU b (ak sh) i) j).w = 2 := fun i j hj => by
  have : lz (sU b (ak sh) i) j = Fv b _ _ ((ak sh).getD i cG) j := bn hj
  rw [this]; exact ⟨rfl, rfl⟩
 have cpt : ∀ i j, j < ((ak sh).getD i cG).puts.length → (sB (sU b (ak sh) i) j).chan = ((ak sh).getD i cG).puts.getD j 0 ∧ (sB (sU b (ak sh) i) j).w = 2 := fun i j hj => by
  have : sB (sU b (ak sh) i) j = HR b _ _ _ ((ak sh).getD i cG) j := bn hj
  rw [this]; exact ⟨rfl, rfl⟩
 have cast : ∀ x : Int, 0 ≤ x → ((x.toNat : Nat) : Int) = x := fun x hx => by omega
 refine ⟨by omega, by omega, by omega, fun i hi => ?_, fun i hi j hj => ?_, fun i hi j hj => ?_, fun i hi j k hj hk he => ?_, fun i hi j k hj hk he => ?_, fun n hn => ?_, fun n hn => ?_⟩
 ·rw [lp] at hi
  rw [gp i hi]
  have he := ny sh i
  exact Jd hb he.1 he.2
 ·rw [lp] at hi
  rw [gp i hi] at hj ⊢
  rw [ltk] at hj
  obtain ⟨a1, a2, a3⟩ := q1 i hi j hj
  obtain ⟨c1, c2⟩ := ctk i j hj
  have e : wi (sU b (ak sh) i) j = (((ak sh).getD i cG).takes.getD j 0).toNat := by show (lz _ j).chan.toNat = _; rw [c1]
  rw [c1, c2, e, gc _ (by omega), lc]
  refine ⟨a1, by omega, rfl, ?_⟩
  show zh _ _ _ = _
  rw [cast _ a1]; exact a3
 ·rw [lp] at hi
  rw [gp i hi] at hj ⊢
  rw [lpt] at hj
  obtain ⟨a1, a2, a3⟩ := q2 i hi j hj
  obtain ⟨c1, c2⟩ := cpt i j hj
  have e : v4 (sU b (ak sh) i) j = (((ak sh).getD i cG).puts.getD j 0).toNat := by show (sB _ j).chan.toNat = _; rw [c1]
  rw [c1, c2, e, gc _ (by omega), lc]
  refine ⟨a1, by omega, rfl, ?_⟩
  show zi _ _ _ = _
  rw [cast _ a1]; exact a3
 ·rw [lp] at hi
  rw [gp i hi] at hj hk he
  rw [ltk] at hj hk
  have a1 := (q1 i hi j hj).1
  have a2 := (q1 i hi k hk).1
  have e1 : wi (sU b (ak sh) i) j = (((ak sh).getD i cG).takes.getD j 0).toNat := by show (lz _ j).chan.toNat = _; rw [(ctk i j hj).1]
  have e2 : wi (sU b (ak sh) i) k = (((ak sh).getD i cG).takes.getD k 0).toNat := by show (lz _ k).chan.toNat = _; rw [(ctk i k hk).1]
  exact q3 i hi j hj k hk (by omega)
 ·rw [lp] at hi
  rw [gp i hi] at hj hk he
  rw [lpt] at hj hk
  have a1 := (q2 i hi j hj).1
  have a2 := (q2 i hi k hk).1
  have e1 : v4 (sU b (ak sh) i) j = (((ak sh).getD i cG).puts.getD j 0).toNat := by show (sB _ j).chan.toNat = _; rw [(cpt i j hj).1]
  have e2 : v4 (sU b (ak sh) i) k = (((ak sh).getD i cG).puts.getD k 0).toNat := by show (sB _ k).chan.toNat = _; rw [(cpt i k hk).1]
  exact q4 i hi j hj k hk (by omega)
 ·rw [lc] at hn
  rw [gc n hn]; rfl
 ·rw [lc] at hn
  rw [gc n hn]
  show (0 : Int) ≤ if _ then _ else _
  split
  ·exact Int.add_nonneg (by decide) (Int.emod_nonneg _ (by decide))
  ·exact Int.le_refl 0
end Go.Proofs.YtgmpoenfoacofaaGreat
