/-
  Made circuits are well made.
-/
import Derived.Test.YtifoecfajmnjjaaGreatQNeS
namespace Go.Proofs.YtifoecfajmnjjaaGreat
open Go.RowKit
set_option linter.unusedVariables false
set_option linter.unusedSimpArgs false
theorem AI {s : Sg} {b : List Int} (hb : kz b) (i : Nat) : ex s.sc (aQ s b i).1 = some 1 ∧ eX (aQ s b i).1 ≤ 3 := by
 unfold aQ
 split
 ·have h := sn (s := s) hb 2 (i + 1) 1 (by omega) (by omega) (by omega)
  exact ⟨h.1, by have := h.2.1; omega⟩
 ·exact ⟨rfl, by show eX fm ≤ 3; decide⟩
theorem GV (y : Int) (f : Nat → Rg) (hf : ∀ k, (f k).w = bI y k) : (⟨(ap f (qq y)).map (·.w), [], []⟩ : Sc) = (G5 y).sc := by
 have : (ap f (qq y)).map (·.w) = G4 y := by
  unfold G4 ap
  rw [List.map_map]
  exact List.map_congr_left (fun k _ => hf k)
 rw [this]; rfl
theorem GW (y : Int) (n : Nat) (f : Nat → Rg) (g : Nat → Tk) (hf : ∀ k, (f k).w = bI y k) (hg : ∀ k, (g k).w = 2) : (⟨(ap f (qq y)).map (·.w), [], (ap g n).map (·.w)⟩ : Sc) = (xv y n).sc := by
 have e1 : (ap f (qq y)).map (·.w) = G4 y := by
  unfold G4 ap
  rw [List.map_map]
  exact List.map_congr_left (fun k _ => hf k)
 have e2 : (ap g n).map (·.w) = List.replicate n 2 := by
  apply List.ext_getElem
  ·simp [aR]
  ·intro i h1 h2
   simp [ap, hg]
 rw [e1, e2]; rfl
theorem Fw {b : List Int} (hb : kz b) {i : Nat} {nm : ByteArray} {e : En} (ht : e.takes.length ≤ 2) (hp : e.puts.length ≤ 2) : fq (bA b i nm e).1 := by
 have hy := dQ hb i
 have hn := zb hy.1
 have hs0 : J6 (bA b i nm e).1 = (G5 (b.getD i 0)).sc := GV _ _ (fun k => rfl)
 have hs1 : oJ (bA b i nm e).1 = (xv (b.getD i 0) e.takes.length).sc := GW _ _ _ _ (fun k => rfl) (fun k => rfl)
 have l1 : (bA b i nm e).1.regs.length = qq (b.getD i 0) := aR _ _
 have l2 : (bA b i nm e).1.takes.length = e.takes.length := aR _ _
 have l3 : (bA b i nm e).1.puts.length = e.puts.length := aR _ _
 have l4 : (bA b i nm e).1.mems.length = 0 := rfl
 refine ⟨by omega, by omega, by omega, by omega, fun k hk => ?_, fun k hk => by omega, fun k hk => ?_, fun k hk => ?_⟩
 ·rw [hs1]
  rw [l1] at hk
  have e1 : Be (bA b i nm e).1 k = JH b (b.getD i 0) e.takes.length (lw b i e) k := bj hk
  rw [e1]
  have hw := vU (b.getD i 0) k
  have h := sn (s := xv (b.getD i 0) e.takes.length) hb 3 (vP b (b.getD i 0) e.takes.length (lw b i e) k) (bI (b.getD i 0) k) (by omega) (by omega) (by omega)
  refine ⟨aU.2 (by show 1 ≤ bI (b.getD i 0) k ∧ bI (b.getD i 0) k ≤ 8; omega), ?_, h.1, by have := h.2.1; show eX (ak _ b 3 _ _).1 ≤ 3; omega⟩
  show dt (b.getD i 0 / 8 % 2 ^ (bI (b.getD i 0) k).toNat) (bI (b.getD i 0) k)
  unfold dt
  rw [cu (by omega) (by omega)]
  have hp2 : (0 : Int) < 2 ^ (bI (b.getD i 0) k).toNat := Int.pow_pos (by omega)
  exact ⟨Int.emod_nonneg _ (by omega), by have := Int.emod_lt_of_pos (b.getD i 0 / 8) hp2; omega⟩
 ·rw [hs0]
  rw [l2] at hk
  have e1 : kt (bA b i nm e).1 k = BX b (b.getD i 0) (i + 1) e k := bj hk
  rw [e1]
  exact ⟨rfl, AI hb _⟩
 ·rw [hs1]
  rw [l3] at hk
  have e1 : qE (bA b i nm e).1 k = Ep b (b.getD i 0) e.takes.length (kC b i e) e k := bj hk
  rw [e1]
  have h := sn (s := xv (b.getD i 0) e.takes.length) hb 2 (aQ (xv (b.getD i 0) e.takes.length) b (sS b (b.getD i 0) e.takes.length (kC b i e) k)).2 2 (by omega) (by omega) (by omega)
  exact ⟨rfl, AI hb _, h.1, by have := h.2.1; show eX (ak _ b 2 _ _).1 ≤ 3; omega⟩
def Ip (l : List En) : Prop := ∀ i, i < l.length → ∀ j, j < (l.getD i cG).takes.length → 0 ≤ (l.getD i cG).takes.getD j 0 ∧ (l.getD i cG).takes.getD j 0 < po l l.length + 1 ∧ v8 l ((l.getD i cG).takes.getD j 0) l.length = (i : Int)
def Iq (l : List En) : Prop := ∀ i, i < l.length → ∀ j, j < (l.getD i cG).puts.length → 0 ≤ (l.getD i cG).puts.getD j 0 ∧ (l.getD i cG).puts.getD j 0 < po l l.length + 1 ∧ v9 l ((l.getD i cG).puts.getD j 0) l.length = (i : Int)
def Ir (l : List En) : Prop := ∀ i, i < l.length → ∀ j, j < (l.getD i cG).takes.length → ∀ k, k < (l.getD i cG).takes.length → (l.getD i cG).takes.getD j 0 = (l.getD i cG).takes.getD k 0 → j = k
def It (l : List En) : Prop := ∀ i, i < l.length → ∀ j, j < (l.getD i cG).puts.length → ∀ k, k < (l.getD i cG).puts.length → (l.getD i cG).puts.getD j 0 = (l.getD i cG).puts.getD k 0 → j = k
theorem Iu (sh : Int) : Ip (aj sh) ∧ Iq (aj sh) ∧ Ir (aj sh) ∧ It (aj sh) := by
 unfold Ip Iq Ir It
 rcases kd sh with h | h | h | h | h | h <;> rw [h] <;> decide
theorem Iv {sh : Int} {b : List Int} (h0 : 0 ≤ sh) (h1 : sh ≤ 255) (hb : kz b) : bM (ae sh b) := by
 have hpl := xy sh
 have hnc := D1 sh
 obtain ⟨q1, q2, q3, q4⟩ := Iu sh
 have lp : (ae sh b).procs.length = (aj sh).length := aR _ _
 have lc : (ae sh b).chans.length = kD sh := aR _ _
 have gp : ∀ i, i < (aj sh).length → bC (ae sh b) i = qM b (aj sh) i := fun i hi => bj hi
 have gc : ∀ n, n < kD sh → f6 (ae sh b) n = s4 sh (aj sh) n := fun n hn => bj hn
 have ltk : ∀ i, (qM b (aj sh) i).takes.length = ((aj sh).getD i cG).takes.length := fun i => aR _ _
 have lpt : ∀ i, (qM b (aj sh) i).puts.length = ((aj sh).getD i cG).puts.length := fun i => aR _ _
 have ctk : ∀ i j, j < ((aj sh).getD i cG).takes.length → (kt (qM b (aj sh) i) j).chan = ((aj sh).getD i cG).takes.getD j 0 ∧ (kt (qM b (aj sh) i) j).w = 2 := fun i j hj => by
  have : kt (qM b (aj sh) i) j = BX b _ _ ((aj sh).getD i cG) j := bj hj
  rw [this]; exact ⟨rfl, rfl⟩
 have cpt : ∀ i j, j < ((aj sh).getD i cG).puts.length → (qE (qM b (aj sh) i) j).chan = ((aj sh).getD i cG).puts.getD j 0 ∧ (qE (qM b (aj sh) i) j).w = 2 := fun i j hj => by
  have : qE (qM b (aj sh) i) j = Ep b _ _ _ ((aj sh).getD i cG) j := bj hj
  rw [this]; exact ⟨rfl, rfl⟩
 have cast : ∀ x : Int, 0 ≤ x → ((x.toNat : Nat) : Int) = x := fun x hx => by omega
 refine ⟨by omega, by omega, by omega, fun i hi => ?_, fun i hi j hj => ?_, fun i hi j hj => ?_, fun i hi j k hj hk he => ?_, fun i hi j k hj hk he => ?_, fun n hn => ?_, fun n hn => ?_⟩
 ·rw [lp] at hi
  rw [gp i hi]
  have he := ms sh i
  exact Fw hb he.1 he.2
 ·rw [lp] at hi
  rw [gp i hi] at hj ⊢
  rw [ltk] at hj
  obtain ⟨a1, a2, a3⟩ := q1 i hi j hj
  obtain ⟨c1, c2⟩ := ctk i j hj
  have e : tb (qM b (aj sh) i) j = (((aj sh).getD i cG).takes.getD j 0).toNat := by show (kt _ j).chan.toNat = _; rw [c1]
  rw [c1, c2, e, gc _ (by omega), lc]
  refine ⟨a1, by omega, rfl, ?_⟩
  show v8 _ _ _ = _
  rw [cast _ a1]; exact a3
 ·rw [lp] at hi
  rw [gp i hi] at hj ⊢
  rw [lpt] at hj
  obtain ⟨a1, a2, a3⟩ := q2 i hi j hj
  obtain ⟨c1, c2⟩ := cpt i j hj
  have e : sZ (qM b (aj sh) i) j = (((aj sh).getD i cG).puts.getD j 0).toNat := by show (qE _ j).chan.toNat = _; rw [c1]
  rw [c1, c2, e, gc _ (by omega), lc]
  refine ⟨a1, by omega, rfl, ?_⟩
  show v9 _ _ _ = _
  rw [cast _ a1]; exact a3
 ·rw [lp] at hi
  rw [gp i hi] at hj hk he
  rw [ltk] at hj hk
  have a1 := (q1 i hi j hj).1
  have a2 := (q1 i hi k hk).1
  have e1 : tb (qM b (aj sh) i) j = (((aj sh).getD i cG).takes.getD j 0).toNat := by show (kt _ j).chan.toNat = _; rw [(ctk i j hj).1]
  have e2 : tb (qM b (aj sh) i) k = (((aj sh).getD i cG).takes.getD k 0).toNat := by show (kt _ k).chan.toNat = _; rw [(ctk i k hk).1]
  exact q3 i hi j hj k hk (by omega)
 ·rw [lp] at hi
  rw [gp i hi] at hj hk he
  rw [lpt] at hj hk
  have a1 := (q2 i hi j hj).1
  have a2 := (q2 i hi k hk).1
  have e1 : sZ (qM b (aj sh) i) j = (((aj sh).getD i cG).puts.getD j 0).toNat := by show (qE _ j).chan.toNat = _; rw [(cpt i j hj).1]
  have e2 : sZ (qM b (aj sh) i) k = (((aj sh).getD i cG).puts.getD k 0).toNat := by show (qE _ k).chan.toNat = _; rw [(cpt i k hk).1]
  exact q4 i hi j hj k hk (by omega)
 ·rw [lc] at hn
  rw [gc n hn]; rfl
 ·rw [lc] at hn
  rw [gc n hn]
  show (0 : Int) ≤ if _ then _ else _
  split
  ·exact Int.add_nonneg (by decide) (Int.emod_nonneg _ (by decide))
  ·exact Int.le_refl 0
end Go.Proofs.YtifoecfajmnjjaaGreat
