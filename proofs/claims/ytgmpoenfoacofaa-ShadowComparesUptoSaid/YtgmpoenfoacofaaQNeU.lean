/-
  Made circuits are well made.
-/
import Derived.Test.YtgmpoenfoacofaaQNeQ
namespace Go.Proofs.Ytgmpoenfoacofaa
open Go.RowKit
set_option linter.unusedVariables false
set_option linter.unusedSimpArgs false
theorem rZ {s : Sg} {b : List Int} (hb : lR b) (i : Nat) : gd s.sc (av s b i).1 = some 1 ∧ gt (av s b i).1 ≤ 3 := by
 unfold av
 split
 ·have h := kS (s := s) hb 2 (i + 1) 1 (by omega) (by omega) (by omega)
  exact ⟨h.1, by have := h.2.1; omega⟩
 ·exact ⟨rfl, by show gt cO ≤ 3; decide⟩
theorem w5 (y : Int) (f : Nat → Rg) (hf : ∀ k, (f k).w = aO y k) : (⟨(tab f (ja y)).map (·.w), [], []⟩ : Sc) = (xi y).sc := by
 have : (tab f (ja y)).map (·.w) = xh y := by
  unfold xh tab
  rw [List.map_map]
  exact List.map_congr_left (fun k _ => hf k)
 rw [this]; rfl
theorem w7 (y : Int) (n : Nat) (f : Nat → Rg) (g : Nat → Tk) (hf : ∀ k, (f k).w = aO y k) (hg : ∀ k, (g k).w = 2) : (⟨(tab f (ja y)).map (·.w), [], (tab g n).map (·.w)⟩ : Sc) = (py y n).sc := by
 have e1 : (tab f (ja y)).map (·.w) = xh y := by
  unfold xh tab
  rw [List.map_map]
  exact List.map_congr_left (fun k _ => hf k)
 have e2 : (tab g n).map (·.w) = List.replicate n 2 := by
  apply List.ext_getElem
  ·simp [aY]
  ·intro i h1 h2
   simp [tab, hg]
 rw [e1, e2]; rfl
theorem vR {b : List Int} (hb : lR b) {i : Nat} {nm : ByteArray} {e : En} (ht : e.takes.length ≤ 2) (hp : e.puts.length ≤ 2) : vB (aM b i nm e).1 := by
 have hy := cY hb i
 have hn := qO hy.1
 have hs0 : zu (aM b i nm e).1 = (xi (b.getD i 0)).sc := w5 _ _ (fun k => rfl)
 have hs1 : wM (aM b i nm e).1 = (py (b.getD i 0) e.takes.length).sc := w7 _ _ _ _ (fun k => rfl) (fun k => rfl)
 have l1 : (aM b i nm e).1.regs.length = ja (b.getD i 0) := aY _ _
 have l2 : (aM b i nm e).1.takes.length = e.takes.length := aY _ _
 have l3 : (aM b i nm e).1.puts.length = e.puts.length := aY _ _
 have l4 : (aM b i nm e).1.mems.length = 0 := rfl
 refine ⟨by omega, by omega, by omega, by omega, fun k hk => ?_, fun k hk => by omega, fun k hk => ?_, fun k hk => ?_⟩
 ·rw [hs1]
  rw [l1] at hk
  have e1 : uZ (aM b i nm e).1 k = zb b (b.getD i 0) e.takes.length (fC b i e) k := cf hk
  rw [e1]
  have hw := nM (b.getD i 0) k
  have h := kS (s := py (b.getD i 0) e.takes.length) hb 3 (nC b (b.getD i 0) e.takes.length (fC b i e) k) (aO (b.getD i 0) k) (by omega) (by omega) (by omega)
  refine ⟨bl.2 (by show 1 ≤ aO (b.getD i 0) k ∧ aO (b.getD i 0) k ≤ 8; omega), ?_, h.1, by have := h.2.1; show gt (ab _ b 3 _ _).1 ≤ 3; omega⟩
  show o8 (b.getD i 0 / 8 % 2 ^ (aO (b.getD i 0) k).toNat) (aO (b.getD i 0) k)
  unfold o8
  rw [fw (by omega) (by omega)]
  have hp2 : (0 : Int) < 2 ^ (aO (b.getD i 0) k).toNat := Int.pow_pos (by omega)
  exact ⟨Int.emod_nonneg _ (by omega), by have := Int.emod_lt_of_pos (b.getD i 0 / 8) hp2; omega⟩
 ·rw [hs0]
  rw [l2] at hk
  have e1 : pg (aM b i nm e).1 k = s5 b (b.getD i 0) (i + 1) e k := cf hk
  rw [e1]
  exact ⟨rfl, rZ hb _⟩
 ·rw [hs1]
  rw [l3] at hk
  have e1 : mH (aM b i nm e).1 k = u3 b (b.getD i 0) e.takes.length (fd b i e) e k := cf hk
  rw [e1]
  have h := kS (s := py (b.getD i 0) e.takes.length) hb 2 (av (py (b.getD i 0) e.takes.length) b (lA b (b.getD i 0) e.takes.length (fd b i e) k)).2 2 (by omega) (by omega) (by omega)
  exact ⟨rfl, rZ hb _, h.1, by have := h.2.1; show gt (ab _ b 2 _ _).1 ≤ 3; omega⟩
def yd (l : List En) : Prop := ∀ i, i < l.length → ∀ j, j < (l.getD i ba).takes.length → 0 ≤ (l.getD i ba).takes.getD j 0 ∧ (l.getD i ba).takes.getD j 0 < iv l l.length + 1 ∧ ob l ((l.getD i ba).takes.getD j 0) l.length = (i : Int)
def ye (l : List En) : Prop := ∀ i, i < l.length → ∀ j, j < (l.getD i ba).puts.length → 0 ≤ (l.getD i ba).puts.getD j 0 ∧ (l.getD i ba).puts.getD j 0 < iv l l.length + 1 ∧ oc l ((l.getD i ba).puts.getD j 0) l.length = (i : Int)
def yf (l : List En) : Prop := ∀ i, i < l.length → ∀ j, j < (l.getD i ba).takes.length → ∀ k, k < (l.getD i ba).takes.length → (l.getD i ba).takes.getD j 0 = (l.getD i ba).takes.getD k 0 → j = k
def yg (l : List En) : Prop := ∀ i, i < l.length → ∀ j, j < (l.getD i ba).puts.length → ∀ k, k < (l.getD i ba).puts.length → (l.getD i ba).puts.getD j 0 = (l.getD i ba).puts.getD k 0 → j = k
theorem yh (sh : Int) : yd (aa sh) ∧ ye (aa sh) ∧ yf (aa sh) ∧ yg (aa sh) := by
 unfold yd ye yf yg
 rcases eP sh with h | h | h | h | h | h <;> rw [h] <;> decide
theorem yi {sh : Int} {b : List Int} (h0 : 0 ≤ sh) (h1 : sh ≤ 255) (hb : lR b) : kV (an sh b) := by
 have hpl := pB sh
 have hnc := uF sh
 obtain ⟨q1, q2, q3, q4⟩ := yh sh
 have lp : (an sh b).procs.length = (aa sh).length := aY _ _
 have lc : (an sh b).chans.length = fe sh := aY _ _
 have gp : ∀ i, i < (aa sh).length → dP (an sh b) i = jx b (aa sh) i := fun i hi => cf hi
 have gc : ∀ n, n < fe sh → jr (an sh b) n = lK sh (aa sh) n := fun n hn => cf hn
 have ltk : ∀ i, (jx b (aa sh) i).takes.length = ((aa sh).getD i ba).takes.length := fun i => aY _ _
 have lpt : ∀ i, (jx b (aa sh) i).puts.length = ((aa sh).getD i ba).puts.length := fun i => aY _ _
 have ctk : ∀ i j, j < ((aa sh).getD i ba).takes.length → (pg (jx b (aa sh) i) j).chan = ((aa sh).getD i ba).takes.getD j 0 ∧ (pg (jx b (aa sh) i) j).w = 2 := fun i j hj => by
  have : pg (jx b (aa sh) i) j = s5 b _ _ ((aa sh).getD i ba) j := cf hj
  rw [this]; exact ⟨rfl, rfl⟩
 have cpt : ∀ i j, j < ((aa sh).getD i ba).puts.length → (mH (jx b (aa sh) i) j).chan = ((aa sh).getD i ba).puts.getD j 0 ∧ (mH (jx b (aa sh) i) j).w = 2 := fun i j hj => by
  have : mH (jx b (aa sh) i) j = u3 b _ _ _ ((aa sh).getD i ba) j := cf hj
  rw [this]; exact ⟨rfl, rfl⟩
 have cast : ∀ x : Int, 0 ≤ x → ((x.toNat : Nat) : Int) = x := fun x hx => by omega
 refine ⟨by omega, by omega, by omega, fun i hi => ?_, fun i hi j hj => ?_, fun i hi j hj => ?_, fun i hi j k hj hk he => ?_, fun i hi j k hj hk he => ?_, fun n hn => ?_, fun n hn => ?_⟩
 ·rw [lp] at hi
  rw [gp i hi]
  have he := f6 sh i
  exact vR hb he.1 he.2
 ·rw [lp] at hi
  rw [gp i hi] at hj ⊢
  rw [ltk] at hj
  obtain ⟨a1, a2, a3⟩ := q1 i hi j hj
  obtain ⟨c1, c2⟩ := ctk i j hj
  have e : u2 (jx b (aa sh) i) j = (((aa sh).getD i ba).takes.getD j 0).toNat := by show (pg _ j).chan.toNat = _; rw [c1]
  rw [c1, c2, e, gc _ (by omega), lc]
  refine ⟨a1, by omega, rfl, ?_⟩
  show ob _ _ _ = _
  rw [cast _ a1]; exact a3
 ·rw [lp] at hi
  rw [gp i hi] at hj ⊢
  rw [lpt] at hj
  obtain ⟨a1, a2, a3⟩ := q2 i hi j hj
  obtain ⟨c1, c2⟩ := cpt i j hj
  have e : t8 (jx b (aa sh) i) j = (((aa sh).getD i ba).puts.getD j 0).toNat := by show (mH _ j).chan.toNat = _; rw [c1]
  rw [c1, c2, e, gc _ (by omega), lc]
  refine ⟨a1, by omega, rfl, ?_⟩
  show oc _ _ _ = _
  rw [cast _ a1]; exact a3
 ·rw [lp] at hi
  rw [gp i hi] at hj hk he
  rw [ltk] at hj hk
  have a1 := (q1 i hi j hj).1
  have a2 := (q1 i hi k hk).1
  have e1 : u2 (jx b (aa sh) i) j = (((aa sh).getD i ba).takes.getD j 0).toNat := by show (pg _ j).chan.toNat = _; rw [(ctk i j hj).1]
  have e2 : u2 (jx b (aa sh) i) k = (((aa sh).getD i ba).takes.getD k 0).toNat := by show (pg _ k).chan.toNat = _; rw [(ctk i k hk).1]
  exact q3 i hi j hj k hk (by omega)
 ·rw [lp] at hi
  rw [gp i hi] at hj hk he
  rw [lpt] at hj hk
  have a1 := (q2 i hi j hj).1
  have a2 := (q2 i hi k hk).1
  have e1 : t8 (jx b (aa sh) i) j = (((aa sh).getD i ba).puts.getD j 0).toNat := by show (mH _ j).chan.toNat = _; rw [(cpt i j hj).1]
  have e2 : t8 (jx b (aa sh) i) k = (((aa sh).getD i ba).puts.getD k 0).toNat := by show (mH _ k).chan.toNat = _; rw [(cpt i k hk).1]
  exact q4 i hi j hj k hk (by omega)
 ·rw [lc] at hn
  rw [gc n hn]; rfl
 ·rw [lc] at hn
  rw [gc n hn]
  show (0 : Int) ≤ if _ then _ else _
  split
  ·exact Int.add_nonneg (by decide) (Int.emod_nonneg _ (by decide))
  ·exact Int.le_refl 0
end Go.Proofs.Ytgmpoenfoacofaa
