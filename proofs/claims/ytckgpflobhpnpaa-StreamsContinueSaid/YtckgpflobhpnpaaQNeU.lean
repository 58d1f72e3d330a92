/-
  Made circuits are well made.
-/
import Derived.Test.YtckgpflobhpnpaaQStS
namespace Go.Proofs.Ytckgpflobhpnpaa
open Go.RowKit
set_option linter.unusedVariables false
set_option linter.unusedSimpArgs false
theorem Ds {s : Sg} {b : List Int} (hb : lL b) (i : Nat) : e9 s.sc (aM s b i).1 = some 1 ∧ fS (aM s b i).1 ≤ 3 := by
 unfold aM
 split
 ·have h := uR (s := s) hb 2 (i + 1) 1 (by omega) (by omega) (by omega)
  exact ⟨h.1, by have := h.2.1; omega⟩
 ·exact ⟨rfl, by show fS fu ≤ 3; decide⟩
theorem KS (y : Int) (f : Nat → Rg) (hf : ∀ k, (f k).w = bw y k) : (⟨(tab f (r9 y)).map (·.w), [], []⟩ : Sc) = (K1 y).sc := by
 have : (tab f (r9 y)).map (·.w) = K0 y := by
  unfold K0 tab
  rw [List.map_map]
  exact List.map_congr_left (fun k _ => hf k)
 rw [this]; rfl
theorem KT (y : Int) (n : Nat) (f : Nat → Rg) (g : Nat → Tk) (hf : ∀ k, (f k).w = bw y k) (hg : ∀ k, (g k).w = 2) : (⟨(tab f (r9 y)).map (·.w), [], (tab g n).map (·.w)⟩ : Sc) = (zD y n).sc := by
 have e1 : (tab f (r9 y)).map (·.w) = K0 y := by
  unfold K0 tab
  rw [List.map_map]
  exact List.map_congr_left (fun k _ => hf k)
 have e2 : (tab g n).map (·.w) = List.replicate n 2 := by
  apply List.ext_getElem
  ·simp [ap]
  ·intro i h1 h2
   simp [tab, hg]
 rw [e1, e2]; rfl
theorem I1 {b : List Int} (hb : lL b) {i : Nat} {nm : ByteArray} {e : En} (ht : e.takes.length ≤ 2) (hp : e.puts.length ≤ 2) : gP (bn b i nm e).1 := by
 have hy := eh hb i
 have hn := Bj hy.1
 have hs0 : NP (bn b i nm e).1 = (K1 (b.getD i 0)).sc := KS _ _ (fun k => rfl)
 have hs1 : qE (bn b i nm e).1 = (zD (b.getD i 0) e.takes.length).sc := KT _ _ _ _ (fun k => rfl) (fun k => rfl)
 have l1 : (bn b i nm e).1.regs.length = r9 (b.getD i 0) := ap _ _
 have l2 : (bn b i nm e).1.takes.length = e.takes.length := ap _ _
 have l3 : (bn b i nm e).1.puts.length = e.puts.length := ap _ _
 have l4 : (bn b i nm e).1.mems.length = 0 := rfl
 refine ⟨by omega, by omega, by omega, by omega, fun k hk => ?_, fun k hk => by omega, fun k hk => ?_, fun k hk => ?_⟩
 ·rw [hs1]
  rw [l1] at hk
  have e1 : Ho (bn b i nm e).1 k = Nl b (b.getD i 0) e.takes.length (mJ b i e) k := aB hk
  rw [e1]
  have hw := x8 (b.getD i 0) k
  have h := uR (s := zD (b.getD i 0) e.takes.length) hb 3 (x4 b (b.getD i 0) e.takes.length (mJ b i e) k) (bw (b.getD i 0) k) (by omega) (by omega) (by omega)
  refine ⟨bo.2 (by show 1 ≤ bw (b.getD i 0) k ∧ bw (b.getD i 0) k ≤ 8; omega), ?_, h.1, by have := h.2.1; show fS (ak _ b 3 _ _).1 ≤ 3; omega⟩
  show dt (b.getD i 0 / 8 % 2 ^ (bw (b.getD i 0) k).toNat) (bw (b.getD i 0) k)
  unfold dt
  rw [dQ (by omega) (by omega)]
  have hp2 : (0 : Int) < 2 ^ (bw (b.getD i 0) k).toNat := Int.pow_pos (by omega)
  exact ⟨Int.emod_nonneg _ (by omega), by have := Int.emod_lt_of_pos (b.getD i 0 / 8) hp2; omega⟩
 ·rw [hs0]
  rw [l2] at hk
  have e1 : lM (bn b i nm e).1 k = EB b (b.getD i 0) (i + 1) e k := aB hk
  rw [e1]
  exact ⟨rfl, Ds hb _⟩
 ·rw [hs1]
  rw [l3] at hk
  have e1 : sH (bn b i nm e).1 k = Hp b (b.getD i 0) e.takes.length (lO b i e) e k := aB hk
  rw [e1]
  have h := uR (s := zD (b.getD i 0) e.takes.length) hb 2 (aM (zD (b.getD i 0) e.takes.length) b (u7 b (b.getD i 0) e.takes.length (lO b i e) k)).2 2 (by omega) (by omega) (by omega)
  exact ⟨rfl, Ds hb _, h.1, by have := h.2.1; show fS (ak _ b 2 _ _).1 ≤ 3; omega⟩
def Mj (l : List En) : Prop := ∀ i, i < l.length → ∀ j, j < (l.getD i co).takes.length → 0 ≤ (l.getD i co).takes.getD j 0 ∧ (l.getD i co).takes.getD j 0 < qU l l.length + 1 ∧ yD l ((l.getD i co).takes.getD j 0) l.length = (i : Int)
def Ml (l : List En) : Prop := ∀ i, i < l.length → ∀ j, j < (l.getD i co).puts.length → 0 ≤ (l.getD i co).puts.getD j 0 ∧ (l.getD i co).puts.getD j 0 < qU l l.length + 1 ∧ yE l ((l.getD i co).puts.getD j 0) l.length = (i : Int)
def Mn (l : List En) : Prop := ∀ i, i < l.length → ∀ j, j < (l.getD i co).takes.length → ∀ k, k < (l.getD i co).takes.length → (l.getD i co).takes.getD j 0 = (l.getD i co).takes.getD k 0 → j = k
def Mo (l : List En) : Prop := ∀ i, i < l.length → ∀ j, j < (l.getD i co).puts.length → ∀ k, k < (l.getD i co).puts.length → (l.getD i co).puts.getD j 0 = (l.getD i co).puts.getD k 0 → j = k
theorem Mp (sh : Int) : Mj (ah sh) ∧ Ml (ah sh) ∧ Mn (ah sh) ∧ Mo (ah sh) := by
 unfold Mj Ml Mn Mo
 rcases iO sh with h | h | h | h | h | h <;> rw [h] <;> decide
theorem He {sh : Int} {b : List Int} (h0 : 0 ≤ sh) (h1 : sh ≤ 255) (hb : lL b) : a6 (ae sh b) := by
 have hpl := zG sh
 have hnc := Gq sh
 obtain ⟨q1, q2, q3, q4⟩ := Mp sh
 have lp : (ae sh b).procs.length = (ah sh).length := ap _ _
 have lc : (ae sh b).chans.length = j5 sh := ap _ _
 have gp : ∀ i, i < (ah sh).length → be (ae sh b) i = rn b (ah sh) i := fun i hi => aB hi
 have gc : ∀ n, n < j5 sh → eO (ae sh b) n = vd sh (ah sh) n := fun n hn => aB hn
 have ltk : ∀ i, (rn b (ah sh) i).takes.length = ((ah sh).getD i co).takes.length := fun i => ap _ _
 have lpt : ∀ i, (rn b (ah sh) i).puts.length = ((ah sh).getD i co).puts.length := fun i => ap _ _
 have ctk : ∀ i j, j < ((ah sh).getD i co).takes.length → (lM (rn b (ah sh) i) j).chan = ((ah sh).getD i co).takes.getD j 0 ∧ (lM (rn b (ah sh) i) j).w = 2 := fun i j hj => by
  have : lM (rn b (ah sh) i) j = EB b _ _ ((ah sh).getD i co) j := aB hj
  rw [this]; exact ⟨rfl, rfl⟩
 have cpt : ∀ i j, j < ((ah sh).getD i co).puts.length → (sH (rn b (ah sh) i) j).chan = ((ah sh).getD i co).puts.getD j 0 ∧ (sH (rn b (ah sh) i) j).w = 2 := fun i j hj => by
  have : sH (rn b (ah sh) i) j = Hp b _ _ _ ((ah sh).getD i co) j := aB hj
  rw [this]; exact ⟨rfl, rfl⟩
 have cast : ∀ x : Int, 0 ≤ x → ((x.toNat : Nat) : Int) = x := fun x hx => by omega
 refine ⟨by omega, by omega, by omega, fun i hi => ?_, fun i hi j hj => ?_, fun i hi j hj => ?_, fun i hi j k hj hk he => ?_, fun i hi j k hj hk he => ?_, fun n hn => ?_, fun n hn => ?_⟩
 ·rw [lp] at hi
  rw [gp i hi]
  have he := nM sh i
  exact I1 hb he.1 he.2
 ·rw [lp] at hi
  rw [gp i hi] at hj ⊢
  rw [ltk] at hj
  obtain ⟨a1, a2, a3⟩ := q1 i hi j hj
  obtain ⟨c1, c2⟩ := ctk i j hj
  have e : mA (rn b (ah sh) i) j = (((ah sh).getD i co).takes.getD j 0).toNat := by show (lM _ j).chan.toNat = _; rw [c1]
  rw [c1, c2, e, gc _ (by omega), lc]
  refine ⟨a1, by omega, rfl, ?_⟩
  show yD _ _ _ = _
  rw [cast _ a1]; exact a3
 ·rw [lp] at hi
  rw [gp i hi] at hj ⊢
  rw [lpt] at hj
  obtain ⟨a1, a2, a3⟩ := q2 i hi j hj
  obtain ⟨c1, c2⟩ := cpt i j hj
  have e : vG (rn b (ah sh) i) j = (((ah sh).getD i co).puts.getD j 0).toNat := by show (sH _ j).chan.toNat = _; rw [c1]
  rw [c1, c2, e, gc _ (by omega), lc]
  refine ⟨a1, by omega, rfl, ?_⟩
  show yE _ _ _ = _
  rw [cast _ a1]; exact a3
 ·rw [lp] at hi
  rw [gp i hi] at hj hk he
  rw [ltk] at hj hk
  have a1 := (q1 i hi j hj).1
  have a2 := (q1 i hi k hk).1
  have e1 : mA (rn b (ah sh) i) j = (((ah sh).getD i co).takes.getD j 0).toNat := by show (lM _ j).chan.toNat = _; rw [(ctk i j hj).1]
  have e2 : mA (rn b (ah sh) i) k = (((ah sh).getD i co).takes.getD k 0).toNat := by show (lM _ k).chan.toNat = _; rw [(ctk i k hk).1]
  exact q3 i hi j hj k hk (by omega)
 ·rw [lp] at hi
  rw [gp i hi] at hj hk he
  rw [lpt] at hj hk
  have a1 := (q2 i hi j hj).1
  have a2 := (q2 i hi k hk).1
  have e1 : vG (rn b (ah sh) i) j = (((ah sh).getD i co).puts.getD j 0).toNat := by show (sH _ j).chan.toNat = _; rw [(cpt i j hj).1]
  have e2 : vG (rn b (ah sh) i) k = (((ah sh).getD i co).puts.getD k 0).toNat := by show (sH _ k).chan.toNat = _; rw [(cpt i k hk).1]
  exact q4 i hi j hj k hk (by omega)
 ·rw [lc] at hn
  rw [gc n hn]; rfl
 ·rw [lc] at hn
  rw [gc n hn]
  show (0 : Int) ≤ if _ then _ else _
  split
  ·exact Int.add_nonneg (by decide) (Int.emod_nonneg _ (by decide))
  ·exact Int.le_refl 0
end Go.Proofs.Ytckgpflobhpnpaa
