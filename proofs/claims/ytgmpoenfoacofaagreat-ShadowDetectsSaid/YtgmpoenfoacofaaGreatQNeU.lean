/-
  Made circuits are well made.
-/
import Derived.Test.YtgmpoenfoacofaaGreatQNeS
namespace Go.Proofs.YtgmpoenfoacofaaGreat
open Go.RowKit
set_option linter.unusedVariables false
set_option linter.unusedSimpArgs false
theorem zn {s : Sg} {b : List Int} (hb : lW b) (i : Nat) : dK s.sc (aH s b i).1 = some 1 ∧ df (aH s b i).1 ≤ 3 := by
 unfold aH
 split
 ·have h := oC (s := s) hb 2 (i + 1) 1 (by omega) (by omega) (by omega)
  exact ⟨h.1, by have := h.2.1; omega⟩
 ·exact ⟨rfl, by show df eO ≤ 3; decide⟩
theorem Gc (y : Int) (f : Nat → Rg) (hf : ∀ k, (f k).w = br y k) : (⟨(tab f (oX y)).map (·.w), [], []⟩ : Sc) = (Gt y).sc := by
 have : (tab f (oX y)).map (·.w) = Gs y := by
  unfold Gs tab
  rw [List.map_map]
  exact List.map_congr_left (fun k _ => hf k)
 rw [this]; rfl
theorem Gd (y : Int) (n : Nat) (f : Nat → Rg) (g : Nat → Tk) (hf : ∀ k, (f k).w = br y k) (hg : ∀ k, (g k).w = 2) : (⟨(tab f (oX y)).map (·.w), [], (tab g n).map (·.w)⟩ : Sc) = (wu y n).sc := by
 have e1 : (tab f (oX y)).map (·.w) = Gs y := by
  unfold Gs tab
  rw [List.map_map]
  exact List.map_congr_left (fun k _ => hf k)
 have e2 : (tab g n).map (·.w) = List.replicate n 2 := by
  apply List.ext_getElem
  ·simp [aK]
  ·intro i h1 h2
   simp [tab, hg]
 rw [e1, e2]; rfl
theorem El {b : List Int} (hb : lW b) {i : Nat} {nm : ByteArray} {e : En} (ht : e.takes.length ≤ 2) (hp : e.puts.length ≤ 2) : gi (bl b i nm e).1 := by
 have hy := dD hb i
 have hn := xT hy.1
 have hs0 : Jb (bl b i nm e).1 = (Gt (b.getD i 0)).sc := Gc _ _ (fun k => rfl)
 have hs1 : lG (bl b i nm e).1 = (wu (b.getD i 0) e.takes.length).sc := Gd _ _ _ _ (fun k => rfl) (fun k => rfl)
 have l1 : (bl b i nm e).1.regs.length = oX (b.getD i 0) := aK _ _
 have l2 : (bl b i nm e).1.takes.length = e.takes.length := aK _ _
 have l3 : (bl b i nm e).1.puts.length = e.puts.length := aK _ _
 have l4 : (bl b i nm e).1.mems.length = 0 := rfl
 refine ⟨by omega, by omega, by omega, by omega, fun k hk => ?_, fun k hk => by omega, fun k hk => ?_, fun k hk => ?_⟩
 ·rw [hs1]
  rw [l1] at hk
  have e1 : xt (bl b i nm e).1 k = IM b (b.getD i 0) e.takes.length (kg b i e) k := bf hk
  rw [e1]
  have hw := u7 (b.getD i 0) k
  have h := oC (s := wu (b.getD i 0) e.takes.length) hb 3 (u3 b (b.getD i 0) e.takes.length (kg b i e) k) (br (b.getD i 0) k) (by omega) (by omega) (by omega)
  refine ⟨bh.2 (by show 1 ≤ br (b.getD i 0) k ∧ br (b.getD i 0) k ≤ 8; omega), ?_, h.1, by have := h.2.1; show df (ai _ b 3 _ _).1 ≤ 3; omega⟩
  show cJ (b.getD i 0 / 8 % 2 ^ (br (b.getD i 0) k).toNat) (br (b.getD i 0) k)
  unfold cJ
  rw [cR (by omega) (by omega)]
  have hp2 : (0 : Int) < 2 ^ (br (b.getD i 0) k).toNat := Int.pow_pos (by omega)
  exact ⟨Int.emod_nonneg _ (by omega), by have := Int.emod_lt_of_pos (b.getD i 0 / 8) hp2; omega⟩
 ·rw [hs0]
  rw [l2] at hk
  have e1 : jE (bl b i nm e).1 k = AJ b (b.getD i 0) (i + 1) e k := bf hk
  rw [e1]
  exact ⟨rfl, zn hb _⟩
 ·rw [hs1]
  rw [l3] at hk
  have e1 : fa (bl b i nm e).1 k = Cz b (b.getD i 0) e.takes.length (jC b i e) e k := bf hk
  rw [e1]
  have h := oC (s := wu (b.getD i 0) e.takes.length) hb 2 (aH (wu (b.getD i 0) e.takes.length) b (rY b (b.getD i 0) e.takes.length (jC b i e) k)).2 2 (by omega) (by omega) (by omega)
  exact ⟨rfl, zn hb _, h.1, by have := h.2.1; show df (ai _ b 2 _ _).1 ≤ 3; omega⟩
def Ht (l : List En) : Prop := ∀ i, i < l.length → ∀ j, j < (l.getD i bV).takes.length → 0 ≤ (l.getD i bV).takes.getD j 0 ∧ (l.getD i bV).takes.getD j 0 < ns l l.length + 1 ∧ tM l ((l.getD i bV).takes.getD j 0) l.length = (i : Int)
def Hu (l : List En) : Prop := ∀ i, i < l.length → ∀ j, j < (l.getD i bV).puts.length → 0 ≤ (l.getD i bV).puts.getD j 0 ∧ (l.getD i bV).puts.getD j 0 < ns l l.length + 1 ∧ vl l ((l.getD i bV).puts.getD j 0) l.length = (i : Int)
def Hv (l : List En) : Prop := ∀ i, i < l.length → ∀ j, j < (l.getD i bV).takes.length → ∀ k, k < (l.getD i bV).takes.length → (l.getD i bV).takes.getD j 0 = (l.getD i bV).takes.getD k 0 → j = k
def Hw (l : List En) : Prop := ∀ i, i < l.length → ∀ j, j < (l.getD i bV).puts.length → ∀ k, k < (l.getD i bV).puts.length → (l.getD i bV).puts.getD j 0 = (l.getD i bV).puts.getD k 0 → j = k
theorem Hx (sh : Int) : Ht (ae sh) ∧ Hu (ae sh) ∧ Hv (ae sh) ∧ Hw (ae sh) := by
 unfold Ht Hu Hv Hw
 rcases jg sh with h | h | h | h | h | h <;> rw [h] <;> decide
theorem E1 {sh : Int} {b : List Int} (h0 : 0 ≤ sh) (h1 : sh ≤ 255) (hb : lW b) : b5 (aa sh b) := by
 have hpl := r7 sh
 have hnc := CA sh
 obtain ⟨q1, q2, q3, q4⟩ := Hx sh
 have lp : (aa sh b).procs.length = (ae sh).length := aK _ _
 have lc : (aa sh b).chans.length = eP sh := aK _ _
 have gp : ∀ i, i < (ae sh).length → ba (aa sh b) i = nr b (ae sh) i := fun i hi => bf hi
 have gc : ∀ n, n < eP sh → dg (aa sh b) n = r6 sh (ae sh) n := fun n hn => bf hn
 have ltk : ∀ i, (nr b (ae sh) i).takes.length = ((ae sh).getD i bV).takes.length := fun i => aK _ _
 have lpt : ∀ i, (nr b (ae sh) i).puts.length = ((ae sh).getD i bV).puts.length := fun i => aK _ _
 have ctk : ∀ i j, j < ((ae sh).getD i bV).takes.length → (jE (nr b (ae sh) i) j).chan = ((ae sh).getD i bV).takes.getD j 0 ∧ (jE (nr b (ae sh) i) j).w = 2 := fun i j hj => by
  have : jE (nr b (ae sh) i) j = AJ b _ _ ((ae sh).getD i bV) j := bf hj
  rw [this]; exact ⟨rfl, rfl⟩
 have cpt : ∀ i j, j < ((ae sh).getD i bV).puts.length → (fa (nr b (ae sh) i) j).chan = ((ae sh).getD i bV).puts.getD j 0 ∧ (fa (nr b (ae sh) i) j).w = 2 := fun i j hj => by
  have : fa (nr b (ae sh) i) j = Cz b _ _ _ ((ae sh).getD i bV) j := bf hj
  rw [this]; exact ⟨rfl, rfl⟩
 have cast : ∀ x : Int, 0 ≤ x → ((x.toNat : Nat) : Int) = x := fun x hx => by omega
 refine ⟨by omega, by omega, by omega, fun i hi => ?_, fun i hi j hj => ?_, fun i hi j hj => ?_, fun i hi j k hj hk he => ?_, fun i hi j k hj hk he => ?_, fun n hn => ?_, fun n hn => ?_⟩
 ·rw [lp] at hi
  rw [gp i hi]
  have he := kV sh i
  exact El hb he.1 he.2
 ·rw [lp] at hi
  rw [gp i hi] at hj ⊢
  rw [ltk] at hj
  obtain ⟨a1, a2, a3⟩ := q1 i hi j hj
  obtain ⟨c1, c2⟩ := ctk i j hj
  have e : oG (nr b (ae sh) i) j = (((ae sh).getD i bV).takes.getD j 0).toNat := by show (jE _ j).chan.toNat = _; rw [c1]
  rw [c1, c2, e, gc _ (by omega), lc]
  refine ⟨a1, by omega, rfl, ?_⟩
  show tM _ _ _ = _
  rw [cast _ a1]; exact a3
 ·rw [lp] at hi
  rw [gp i hi] at hj ⊢
  rw [lpt] at hj
  obtain ⟨a1, a2, a3⟩ := q2 i hi j hj
  obtain ⟨c1, c2⟩ := cpt i j hj
  have e : oH (nr b (ae sh) i) j = (((ae sh).getD i bV).puts.getD j 0).toNat := by show (fa _ j).chan.toNat = _; rw [c1]
  rw [c1, c2, e, gc _ (by omega), lc]
  refine ⟨a1, by omega, rfl, ?_⟩
  show vl _ _ _ = _
  rw [cast _ a1]; exact a3
 ·rw [lp] at hi
  rw [gp i hi] at hj hk he
  rw [ltk] at hj hk
  have a1 := (q1 i hi j hj).1
  have a2 := (q1 i hi k hk).1
  have e1 : oG (nr b (ae sh) i) j = (((ae sh).getD i bV).takes.getD j 0).toNat := by show (jE _ j).chan.toNat = _; rw [(ctk i j hj).1]
  have e2 : oG (nr b (ae sh) i) k = (((ae sh).getD i bV).takes.getD k 0).toNat := by show (jE _ k).chan.toNat = _; rw [(ctk i k hk).1]
  exact q3 i hi j hj k hk (by omega)
 ·rw [lp] at hi
  rw [gp i hi] at hj hk he
  rw [lpt] at hj hk
  have a1 := (q2 i hi j hj).1
  have a2 := (q2 i hi k hk).1
  have e1 : oH (nr b (ae sh) i) j = (((ae sh).getD i bV).puts.getD j 0).toNat := by show (fa _ j).chan.toNat = _; rw [(cpt i j hj).1]
  have e2 : oH (nr b (ae sh) i) k = (((ae sh).getD i bV).puts.getD k 0).toNat := by show (fa _ k).chan.toNat = _; rw [(cpt i k hk).1]
  exact q4 i hi j hj k hk (by omega)
 ·rw [lc] at hn
  rw [gc n hn]; rfl
 ·rw [lc] at hn
  rw [gc n hn]
  show (0 : Int) ≤ if _ then _ else _
  split
  ·exact Int.add_nonneg (by decide) (Int.emod_nonneg _ (by decide))
  ·exact Int.le_refl 0
end Go.Proofs.YtgmpoenfoacofaaGreat
