/-
  Made circuits are well made.
-/
import Derived.Test.YtgmpoenfoacofaaGreatQNeS
namespace Go.Proofs.YtgmpoenfoacofaaGreat
open Go.RowKit
set_option linter.unusedVariables false
set_option linter.unusedSimpArgs false
theorem Cd {s : Sg} {b : List Int} (hb : iG b) (i : Nat) : ew s.sc (aH s b i).1 = some 1 ∧ fc (aH s b i).1 ≤ 3 := by
 unfold aH
 split
 ·have h := tD (s := s) hb 2 (i + 1) 1 (by omega) (by omega) (by omega)
  exact ⟨h.1, by have := h.2.1; omega⟩
 ·exact ⟨rfl, by show fc fw ≤ 3; decide⟩
theorem IU (y : Int) (f : Nat → Rg) (hf : ∀ k, (f k).w = bz y k) : (⟨(tab f (qJ y)).map (·.w), [], []⟩ : Sc) = (I5 y).sc := by
 have : (tab f (qJ y)).map (·.w) = I4 y := by
  unfold I4 tab
  rw [List.map_map]
  exact List.map_congr_left (fun k _ => hf k)
 rw [this]; rfl
theorem IV (y : Int) (n : Nat) (f : Nat → Rg) (g : Nat → Tk) (hf : ∀ k, (f k).w = bz y k) (hg : ∀ k, (g k).w = 2) : (⟨(tab f (qJ y)).map (·.w), [], (tab g n).map (·.w)⟩ : Sc) = (y4 y n).sc := by
 have e1 : (tab f (qJ y)).map (·.w) = I4 y := by
  unfold I4 tab
  rw [List.map_map]
  exact List.map_congr_left (fun k _ => hf k)
 have e2 : (tab g n).map (·.w) = List.replicate n 2 := by
  apply List.ext_getElem
  ·simp [aQ]
  ·intro i h1 h2
   simp [tab, hg]
 rw [e1, e2]; rfl
theorem Hf {b : List Int} (hb : iG b) {i : Nat} {nm : ByteArray} {e : En} (ht : e.takes.length ≤ 2) (hp : e.puts.length ≤ 2) : gv (bl b i nm e).1 := by
 have hy := dC hb i
 have hn := Av hy.1
 have hs0 : LZ (bl b i nm e).1 = (I5 (b.getD i 0)).sc := IU _ _ (fun k => rfl)
 have hs1 : oV (bl b i nm e).1 = (y4 (b.getD i 0) e.takes.length).sc := IV _ _ _ _ (fun k => rfl) (fun k => rfl)
 have l1 : (bl b i nm e).1.regs.length = qJ (b.getD i 0) := aQ _ _
 have l2 : (bl b i nm e).1.takes.length = e.takes.length := aQ _ _
 have l3 : (bl b i nm e).1.puts.length = e.puts.length := aQ _ _
 have l4 : (bl b i nm e).1.mems.length = 0 := rfl
 refine ⟨by omega, by omega, by omega, by omega, fun k hk => ?_, fun k hk => by omega, fun k hk => ?_, fun k hk => ?_⟩
 ·rw [hs1]
  rw [l1] at hk
  have e1 : FY (bl b i nm e).1 k = Lx b (b.getD i 0) e.takes.length (lu b i e) k := bp hk
  rw [e1]
  have hw := xE (b.getD i 0) k
  have h := tD (s := y4 (b.getD i 0) e.takes.length) hb 3 (xA b (b.getD i 0) e.takes.length (lu b i e) k) (bz (b.getD i 0) k) (by omega) (by omega) (by omega)
  refine ⟨aP.2 (by show 1 ≤ bz (b.getD i 0) k ∧ bz (b.getD i 0) k ≤ 8; omega), ?_, h.1, by have := h.2.1; show fc (ak _ b 3 _ _).1 ≤ 3; omega⟩
  show dR (b.getD i 0 / 8 % 2 ^ (bz (b.getD i 0) k).toNat) (bz (b.getD i 0) k)
  unfold dR
  rw [cr (by omega) (by omega)]
  have hp2 : (0 : Int) < 2 ^ (bz (b.getD i 0) k).toNat := Int.pow_pos (by omega)
  exact ⟨Int.emod_nonneg _ (by omega), by have := Int.emod_lt_of_pos (b.getD i 0 / 8) hp2; omega⟩
 ·rw [hs0]
  rw [l2] at hk
  have e1 : kO (bl b i nm e).1 k = Du b (b.getD i 0) (i + 1) e k := bp hk
  rw [e1]
  exact ⟨rfl, Cd hb _⟩
 ·rw [hs1]
  rw [l3] at hk
  have e1 : rJ (bl b i nm e).1 k = F0 b (b.getD i 0) e.takes.length (kx b i e) e k := bp hk
  rw [e1]
  have h := tD (s := y4 (b.getD i 0) e.takes.length) hb 2 (aH (y4 (b.getD i 0) e.takes.length) b (uk b (b.getD i 0) e.takes.length (kx b i e) k)).2 2 (by omega) (by omega) (by omega)
  exact ⟨rfl, Cd hb _, h.1, by have := h.2.1; show fc (ak _ b 2 _ _).1 ≤ 3; omega⟩
def Kd (l : List En) : Prop := ∀ i, i < l.length → ∀ j, j < (l.getD i co).takes.length → 0 ≤ (l.getD i co).takes.getD j 0 ∧ (l.getD i co).takes.getD j 0 < pG l l.length + 1 ∧ xP l ((l.getD i co).takes.getD j 0) l.length = (i : Int)
def Ke (l : List En) : Prop := ∀ i, i < l.length → ∀ j, j < (l.getD i co).puts.length → 0 ≤ (l.getD i co).puts.getD j 0 ∧ (l.getD i co).puts.getD j 0 < pG l l.length + 1 ∧ xQ l ((l.getD i co).puts.getD j 0) l.length = (i : Int)
def Kf (l : List En) : Prop := ∀ i, i < l.length → ∀ j, j < (l.getD i co).takes.length → ∀ k, k < (l.getD i co).takes.length → (l.getD i co).takes.getD j 0 = (l.getD i co).takes.getD k 0 → j = k
def Kg (l : List En) : Prop := ∀ i, i < l.length → ∀ j, j < (l.getD i co).puts.length → ∀ k, k < (l.getD i co).puts.length → (l.getD i co).puts.getD j 0 = (l.getD i co).puts.getD k 0 → j = k
theorem Kh (sh : Int) : Kd (aj sh) ∧ Ke (aj sh) ∧ Kf (aj sh) ∧ Kg (aj sh) := by
 unfold Kd Ke Kf Kg
 rcases j9 sh with h | h | h | h | h | h <;> rw [h] <;> decide
theorem zc {sh : Int} {b : List Int} (h0 : 0 ≤ sh) (h1 : sh ≤ 255) (hb : iG b) : bC (aa sh b) := by
 have hpl := y7 sh
 have hnc := FC sh
 obtain ⟨q1, q2, q3, q4⟩ := Kh sh
 have lp : (aa sh b).procs.length = (aj sh).length := aQ _ _
 have lc : (aa sh b).chans.length = ky sh := aQ _ _
 have gp : ∀ i, i < (aj sh).length → bK (aa sh b) i = rC b (aj sh) i := fun i hi => bp hi
 have gc : ∀ n, n < ky sh → gG (aa sh b) n = uE sh (aj sh) n := fun n hn => bp hn
 have ltk : ∀ i, (rC b (aj sh) i).takes.length = ((aj sh).getD i co).takes.length := fun i => aQ _ _
 have lpt : ∀ i, (rC b (aj sh) i).puts.length = ((aj sh).getD i co).puts.length := fun i => aQ _ _
 have ctk : ∀ i j, j < ((aj sh).getD i co).takes.length → (kO (rC b (aj sh) i) j).chan = ((aj sh).getD i co).takes.getD j 0 ∧ (kO (rC b (aj sh) i) j).w = 2 := fun i j hj => by
  have : kO (rC b (aj sh) i) j = Du b _ _ ((aj sh).getD i co) j := bp hj
  rw [this]; exact ⟨rfl, rfl⟩
 have cpt : ∀ i j, j < ((aj sh).getD i co).puts.length → (rJ (rC b (aj sh) i) j).chan = ((aj sh).getD i co).puts.getD j 0 ∧ (rJ (rC b (aj sh) i) j).w = 2 := fun i j hj => by
  have : rJ (rC b (aj sh) i) j = F0 b _ _ _ ((aj sh).getD i co) j := bp hj
  rw [this]; exact ⟨rfl, rfl⟩
 have cast : ∀ x : Int, 0 ≤ x → ((x.toNat : Nat) : Int) = x := fun x hx => by omega
 refine ⟨by omega, by omega, by omega, fun i hi => ?_, fun i hi j hj => ?_, fun i hi j hj => ?_, fun i hi j k hj hk he => ?_, fun i hi j k hj hk he => ?_, fun n hn => ?_, fun n hn => ?_⟩
 ·rw [lp] at hi
  rw [gp i hi]
  have he := me sh i
  exact Hf hb he.1 he.2
 ·rw [lp] at hi
  rw [gp i hi] at hj ⊢
  rw [ltk] at hj
  obtain ⟨a1, a2, a3⟩ := q1 i hi j hj
  obtain ⟨c1, c2⟩ := ctk i j hj
  have e : xd (rC b (aj sh) i) j = (((aj sh).getD i co).takes.getD j 0).toNat := by show (kO _ j).chan.toNat = _; rw [c1]
  rw [c1, c2, e, gc _ (by omega), lc]
  refine ⟨a1, by omega, rfl, ?_⟩
  show xP _ _ _ = _
  rw [cast _ a1]; exact a3
 ·rw [lp] at hi
  rw [gp i hi] at hj ⊢
  rw [lpt] at hj
  obtain ⟨a1, a2, a3⟩ := q2 i hi j hj
  obtain ⟨c1, c2⟩ := cpt i j hj
  have e : vQ (rC b (aj sh) i) j = (((aj sh).getD i co).puts.getD j 0).toNat := by show (rJ _ j).chan.toNat = _; rw [c1]
  rw [c1, c2, e, gc _ (by omega), lc]
  refine ⟨a1, by omega, rfl, ?_⟩
  show xQ _ _ _ = _
  rw [cast _ a1]; exact a3
 ·rw [lp] at hi
  rw [gp i hi] at hj hk he
  rw [ltk] at hj hk
  have a1 := (q1 i hi j hj).1
  have a2 := (q1 i hi k hk).1
  have e1 : xd (rC b (aj sh) i) j = (((aj sh).getD i co).takes.getD j 0).toNat := by show (kO _ j).chan.toNat = _; rw [(ctk i j hj).1]
  have e2 : xd (rC b (aj sh) i) k = (((aj sh).getD i co).takes.getD k 0).toNat := by show (kO _ k).chan.toNat = _; rw [(ctk i k hk).1]
  exact q3 i hi j hj k hk (by omega)
 ·rw [lp] at hi
  rw [gp i hi] at hj hk he
  rw [lpt] at hj hk
  have a1 := (q2 i hi j hj).1
  have a2 := (q2 i hi k hk).1
  have e1 : vQ (rC b (aj sh) i) j = (((aj sh).getD i co).puts.getD j 0).toNat := by show (rJ _ j).chan.toNat = _; rw [(cpt i j hj).1]
  have e2 : vQ (rC b (aj sh) i) k = (((aj sh).getD i co).puts.getD k 0).toNat := by show (rJ _ k).chan.toNat = _; rw [(cpt i k hk).1]
  exact q4 i hi j hj k hk (by omega)
 ·rw [lc] at hn
  rw [gc n hn]; rfl
 ·rw [lc] at hn
  rw [gc n hn]
  show (0 : Int) ≤ if _ then _ else _
  split
  ·exact Int.add_nonneg (by decide) (Int.emod_nonneg _ (by decide))
  ·exact Int.le_refl 0
end Go.Proofs.YtgmpoenfoacofaaGreat
