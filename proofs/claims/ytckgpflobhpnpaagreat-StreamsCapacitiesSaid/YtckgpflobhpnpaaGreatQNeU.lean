/-
  Made circuits are well made.
-/
import Derived.Test.YtckgpflobhpnpaaGreatQNeS
namespace Go.Proofs.YtckgpflobhpnpaaGreat
open Go.RowKit
set_option linter.unusedVariables false
set_option linter.unusedSimpArgs false
theorem Dh {s : Sg} {b : List Int} (hb : lK b) (i : Nat) : e9 s.sc (aK s b i).1 = some 1 ∧ fS (aK s b i).1 ≤ 3 := by
 unfold aK
 split
 ·have h := uQ (s := s) hb 2 (i + 1) 1 (by omega) (by omega) (by omega)
  exact ⟨h.1, by have := h.2.1; omega⟩
 ·exact ⟨rfl, by show fS fu ≤ 3; decide⟩
theorem K5 (y : Int) (f : Nat → Rg) (hf : ∀ k, (f k).w = bw y k) : (⟨(tab f (r6 y)).map (·.w), [], []⟩ : Sc) = (Lj y).sc := by
 have : (tab f (r6 y)).map (·.w) = Li y := by
  unfold Li tab
  rw [List.map_map]
  exact List.map_congr_left (fun k _ => hf k)
 rw [this]; rfl
theorem K6 (y : Int) (n : Nat) (f : Nat → Rg) (g : Nat → Tk) (hf : ∀ k, (f k).w = bw y k) (hg : ∀ k, (g k).w = 2) : (⟨(tab f (r6 y)).map (·.w), [], (tab g n).map (·.w)⟩ : Sc) = (zz y n).sc := by
 have e1 : (tab f (r6 y)).map (·.w) = Li y := by
  unfold Li tab
  rw [List.map_map]
  exact List.map_congr_left (fun k _ => hf k)
 have e2 : (tab g n).map (·.w) = List.replicate n 2 := by
  apply List.ext_getElem
  ·simp [ap]
  ·intro i h1 h2
   simp [tab, hg]
 rw [e1, e2]; rfl
theorem I0 {b : List Int} (hb : lK b) {i : Nat} {nm : ByteArray} {e : En} (ht : e.takes.length ≤ 2) (hp : e.puts.length ≤ 2) : gP (bn b i nm e).1 := by
 have hy := di hb i
 have hn := Bc hy.1
 have hs0 : Oi (bn b i nm e).1 = (Lj (b.getD i 0)).sc := K5 _ _ (fun k => rfl)
 have hs1 : qE (bn b i nm e).1 = (zz (b.getD i 0) e.takes.length).sc := K6 _ _ _ _ (fun k => rfl) (fun k => rfl)
 have l1 : (bn b i nm e).1.regs.length = r6 (b.getD i 0) := ap _ _
 have l2 : (bn b i nm e).1.takes.length = e.takes.length := ap _ _
 have l3 : (bn b i nm e).1.puts.length = e.puts.length := ap _ _
 have l4 : (bn b i nm e).1.mems.length = 0 := rfl
 refine ⟨by omega, by omega, by omega, by omega, fun k hk => ?_, fun k hk => by omega, fun k hk => ?_, fun k hk => ?_⟩
 ·rw [hs1]
  rw [l1] at hk
  have e1 : Hm (bn b i nm e).1 k = NN b (b.getD i 0) e.takes.length (mE b i e) k := az hk
  rw [e1]
  have hw := x4 (b.getD i 0) k
  have h := uQ (s := zz (b.getD i 0) e.takes.length) hb 3 (xW b (b.getD i 0) e.takes.length (mE b i e) k) (bw (b.getD i 0) k) (by omega) (by omega) (by omega)
  refine ⟨bo.2 (by show 1 ≤ bw (b.getD i 0) k ∧ bw (b.getD i 0) k ≤ 8; omega), ?_, h.1, by have := h.2.1; show fS (aj _ b 3 _ _).1 ≤ 3; omega⟩
  show dn (b.getD i 0 / 8 % 2 ^ (bw (b.getD i 0) k).toNat) (bw (b.getD i 0) k)
  unfold dn
  rw [dP (by omega) (by omega)]
  have hp2 : (0 : Int) < 2 ^ (bw (b.getD i 0) k).toNat := Int.pow_pos (by omega)
  exact ⟨Int.emod_nonneg _ (by omega), by have := Int.emod_lt_of_pos (b.getD i 0 / 8) hp2; omega⟩
 ·rw [hs0]
  rw [l2] at hk
  have e1 : lG (bn b i nm e).1 k = Ey b (b.getD i 0) (i + 1) e k := az hk
  rw [e1]
  exact ⟨rfl, Dh hb _⟩
 ·rw [hs1]
  rw [l3] at hk
  have e1 : sH (bn b i nm e).1 k = Hn b (b.getD i 0) e.takes.length (lI b i e) e k := az hk
  rw [e1]
  have h := uQ (s := zz (b.getD i 0) e.takes.length) hb 2 (aK (zz (b.getD i 0) e.takes.length) b (u4 b (b.getD i 0) e.takes.length (lI b i e) k)).2 2 (by omega) (by omega) (by omega)
  exact ⟨rfl, Dh hb _, h.1, by have := h.2.1; show fS (aj _ b 2 _ _).1 ≤ 3; omega⟩
def MC (l : List En) : Prop := ∀ i, i < l.length → ∀ j, j < (l.getD i cm).takes.length → 0 ≤ (l.getD i cm).takes.getD j 0 ∧ (l.getD i cm).takes.getD j 0 < qT l l.length + 1 ∧ yy l ((l.getD i cm).takes.getD j 0) l.length = (i : Int)
def MD (l : List En) : Prop := ∀ i, i < l.length → ∀ j, j < (l.getD i cm).puts.length → 0 ≤ (l.getD i cm).puts.getD j 0 ∧ (l.getD i cm).puts.getD j 0 < qT l l.length + 1 ∧ yz l ((l.getD i cm).puts.getD j 0) l.length = (i : Int)
def ME (l : List En) : Prop := ∀ i, i < l.length → ∀ j, j < (l.getD i cm).takes.length → ∀ k, k < (l.getD i cm).takes.length → (l.getD i cm).takes.getD j 0 = (l.getD i cm).takes.getD k 0 → j = k
def MF (l : List En) : Prop := ∀ i, i < l.length → ∀ j, j < (l.getD i cm).puts.length → ∀ k, k < (l.getD i cm).puts.length → (l.getD i cm).puts.getD j 0 = (l.getD i cm).puts.getD k 0 → j = k
theorem MG (sh : Int) : MC (af sh) ∧ MD (af sh) ∧ ME (af sh) ∧ MF (af sh) := by
 unfold MC MD ME MF
 rcases iR sh with h | h | h | h | h | h <;> rw [h] <;> decide
theorem Jy {sh : Int} {b : List Int} (h0 : 0 ≤ sh) (h1 : sh ≤ 255) (hb : lK b) : aZ (aM sh b) := by
 have hpl := zC sh
 have hnc := Gr sh
 obtain ⟨q1, q2, q3, q4⟩ := MG sh
 have lp : (aM sh b).procs.length = (af sh).length := ap _ _
 have lc : (aM sh b).chans.length = jb sh := ap _ _
 have gp : ∀ i, i < (af sh).length → a8 (aM sh b) i = rk b (af sh) i := fun i hi => az hi
 have gc : ∀ n, n < jb sh → cr (aM sh b) n = s5 sh (af sh) n := fun n hn => az hn
 have ltk : ∀ i, (rk b (af sh) i).takes.length = ((af sh).getD i cm).takes.length := fun i => ap _ _
 have lpt : ∀ i, (rk b (af sh) i).puts.length = ((af sh).getD i cm).puts.length := fun i => ap _ _
 have ctk : ∀ i j, j < ((af sh).getD i cm).takes.length → (lG (rk b (af sh) i) j).chan = ((af sh).getD i cm).takes.getD j 0 ∧ (lG (rk b (af sh) i) j).w = 2 := fun i j hj => by
  have : lG (rk b (af sh) i) j = Ey b _ _ ((af sh).getD i cm) j := az hj
  rw [this]; exact ⟨rfl, rfl⟩
 have cpt : ∀ i j, j < ((af sh).getD i cm).puts.length → (sH (rk b (af sh) i) j).chan = ((af sh).getD i cm).puts.getD j 0 ∧ (sH (rk b (af sh) i) j).w = 2 := fun i j hj => by
  have : sH (rk b (af sh) i) j = Hn b _ _ _ ((af sh).getD i cm) j := az hj
  rw [this]; exact ⟨rfl, rfl⟩
 have cast : ∀ x : Int, 0 ≤ x → ((x.toNat : Nat) : Int) = x := fun x hx => by omega
 refine ⟨by omega, by omega, by omega, fun i hi => ?_, fun i hi j hj => ?_, fun i hi j hj => ?_, fun i hi j k hj hk he => ?_, fun i hi j k hj hk he => ?_, fun n hn => ?_, fun n hn => ?_⟩
 ·rw [lp] at hi
  rw [gp i hi]
  have he := nG sh i
  exact I0 hb he.1 he.2
 ·rw [lp] at hi
  rw [gp i hi] at hj ⊢
  rw [ltk] at hj
  obtain ⟨a1, a2, a3⟩ := q1 i hi j hj
  obtain ⟨c1, c2⟩ := ctk i j hj
  have e : jG (rk b (af sh) i) j = (((af sh).getD i cm).takes.getD j 0).toNat := by show (lG _ j).chan.toNat = _; rw [c1]
  rw [c1, c2, e, gc _ (by omega), lc]
  refine ⟨a1, by omega, rfl, ?_⟩
  show yy _ _ _ = _
  rw [cast _ a1]; exact a3
 ·rw [lp] at hi
  rw [gp i hi] at hj ⊢
  rw [lpt] at hj
  obtain ⟨a1, a2, a3⟩ := q2 i hi j hj
  obtain ⟨c1, c2⟩ := cpt i j hj
  have e : tz (rk b (af sh) i) j = (((af sh).getD i cm).puts.getD j 0).toNat := by show (sH _ j).chan.toNat = _; rw [c1]
  rw [c1, c2, e, gc _ (by omega), lc]
  refine ⟨a1, by omega, rfl, ?_⟩
  show yz _ _ _ = _
  rw [cast _ a1]; exact a3
 ·rw [lp] at hi
  rw [gp i hi] at hj hk he
  rw [ltk] at hj hk
  have a1 := (q1 i hi j hj).1
  have a2 := (q1 i hi k hk).1
  have e1 : jG (rk b (af sh) i) j = (((af sh).getD i cm).takes.getD j 0).toNat := by show (lG _ j).chan.toNat = _; rw [(ctk i j hj).1]
  have e2 : jG (rk b (af sh) i) k = (((af sh).getD i cm).takes.getD k 0).toNat := by show (lG _ k).chan.toNat = _; rw [(ctk i k hk).1]
  exact q3 i hi j hj k hk (by omega)
 ·rw [lp] at hi
  rw [gp i hi] at hj hk he
  rw [lpt] at hj hk
  have a1 := (q2 i hi j hj).1
  have a2 := (q2 i hi k hk).1
  have e1 : tz (rk b (af sh) i) j = (((af sh).getD i cm).puts.getD j 0).toNat := by show (sH _ j).chan.toNat = _; rw [(cpt i j hj).1]
  have e2 : tz (rk b (af sh) i) k = (((af sh).getD i cm).puts.getD k 0).toNat := by show (sH _ k).chan.toNat = _; rw [(cpt i k hk).1]
  exact q4 i hi j hj k hk (by omega)
 ·rw [lc] at hn
  rw [gc n hn]; rfl
 ·rw [lc] at hn
  rw [gc n hn]
  show (0 : Int) ≤ if _ then _ else _
  split
  ·exact Int.add_nonneg (by decide) (Int.emod_nonneg _ (by decide))
  ·exact Int.le_refl 0
end Go.Proofs.YtckgpflobhpnpaaGreat
