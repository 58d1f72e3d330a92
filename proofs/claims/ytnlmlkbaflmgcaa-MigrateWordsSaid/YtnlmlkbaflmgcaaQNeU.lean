/-
  Made circuits are well made.
-/
import Derived.Test.YtnlmlkbaflmgcaaQNeN
namespace Go.Proofs.Ytnlmlkbaflmgcaa
open Go.RowKit
set_option linter.unusedVariables false
set_option linter.unusedSimpArgs false
theorem xg {l : List Int} {n : Nat} (h : eS l) : eS (l.take n) := fun x hx => h x (List.mem_of_mem_take hx)
theorem D9 {p : Pr} (hp : ga p) : mS p (bp p) where
 rl := by simp [bp]
 rv := fun i hi => by
  rw [show (bp p).regs = p.regs.map (·.init) from rfl]
  have := (hp.rw i hi).2.1
  simpa [List.getD, List.getElem?_map, List.getElem?_eq_getElem hi] using this
 ml := by simp [bp]
 mn := fun i hi => by
  have h2 := (hp.mw i hi).2.1
  rw [show (bp p).mems = p.mems.map (fun m => List.replicate m.words.toNat 0) from rfl]
  have : (p.mems.map (fun m => List.replicate m.words.toNat (0 : Int))).getD i [] = List.replicate (hJ p i).words.toNat 0 := by
   simp [List.getD, List.getElem?_map, List.getElem?_eq_getElem hi]
  rw [this, List.length_replicate]; omega
 mv := fun i hi j hj => by
  rw [show (bp p).mems = p.mems.map (fun m => List.replicate m.words.toNat 0) from rfl] at hj ⊢
  have : (p.mems.map (fun m => List.replicate m.words.toNat (0 : Int))).getD i [] = List.replicate (hJ p i).words.toNat 0 := by
   simp [List.getD, List.getElem?_map, List.getElem?_eq_getElem hi]
  rw [this, db]
  exact mU (hp.mw i hi).1
theorem Ea {c : Ci} (hc : bX c) : fB c (dC c) where
 pl := by simp [dC, aH]
 cl := by simp [dC]
 pv := fun i hi => by
  show mS _ ((tab _ _).getD i aZ)
  rw [aR hi]; exact D9 (hc.pr i hi)
 cv := fun n hn i hi => by
  have h0 : jJ (dC c) n = [] := by show (List.replicate _ _).getD n [] = []; exact db
  rw [h0] at hi; simp at hi
 cc := fun n hn h1 h2 => by
  have h0 : jJ (dC c) n = [] := by show (List.replicate _ _).getD n [] = []; exact db
  rw [h0]
  simpa using hc.cp n hn
theorem F1 {c : Ci} {s : Ns} (hs : fB c s) {n : Nat} (hn : n < c.chans.length) {l : List Int} (h1 : ∀ i, i < l.length → cE (l.getD i 0) (eI c n).w) (h2 : 0 ≤ (eI c n).frm → 0 ≤ (eI c n).dst → (l.length : Int) ≤ (eI c n).cap) : fB c (gk s n l) where
 pl := hs.pl
 cl := by show (s.chans.set n l).length = _; rw [List.length_set]; exact hs.cl
 pv := hs.pv
 cv := fun m hm i hi => by
  have e : jJ (gk s n l) m = if n = m then l else jJ s m := fA (by rw [hs.cl]; exact hn)
  rw [e] at hi ⊢
  split at hi
  ·rename_i h; subst h; rw [if_pos rfl]; exact h1 i hi
  ·rename_i h; rw [if_neg h]; exact hs.cv m hm i hi
 cc := fun m hm a b => by
  have e : jJ (gk s n l) m = if n = m then l else jJ s m := fA (by rw [hs.cl]; exact hn)
  rw [e]
  split
  ·rename_i h; subst h; exact h2 a b
  ·exact hs.cc m hm a b
theorem F2 {s : Ns} {k n : Nat} {l : List Int} (h : pX s k) (hl : l.length ≤ k) : pX (gk s n l) k := fun m => by
 by_cases hn : n < s.chans.length
 ·have e : jJ (gk s n l) m = if n = m then l else jJ s m := fA hn
  rw [e]; split
  ·exact hl
  ·exact h m
 ·have e : gk s n l = s := by show (⟨s.procs, s.chans.set n l⟩ : Ns) = s; rw [List.set_eq_of_length_le (by omega)]
  rw [e]; exact h m
theorem HY {b : List Int} {i : Nat} {w : Int} {k : Nat} (h1 : 1 ≤ w) (h2 : w ≤ 62) : cE (s6 b i w k) w := by
 unfold s6 cE
 rw [cJ (by omega) h2]
 have hp : (0 : Int) < 2 ^ w.toNat := Int.pow_pos (by omega)
 exact ⟨Int.emod_nonneg _ (by omega), by have := Int.emod_lt_of_pos (b.getD (i + (1 + k)) 0) hp; omega⟩
theorem Ap {c : Ci} (hc : bX c) {b : List Int} (hb : eS b) : ∀ i, i ≤ c.chans.length → fB c (sL c b i).1 ∧ pX (sL c b i).1 6
 | 0, _ => ⟨Ea hc, fun n => by
  have : jJ (dC c) n = [] := by show (List.replicate _ _).getD n [] = []; exact db
  show (jJ (dC c) n).length ≤ 6
  rw [this]; simp⟩
 | i + 1, h => by
  have ih := Ap hc hb i (by omega)
  by_cases hf : 0 ≤ (eI c i).frm
  ·rw [D6 hf]; exact ih
  ·rw [yM hf]
   have hw := aP.1 (hc.cw i (by omega))
   have hn := D5 hb (sL c b i).2
   refine ⟨F1 ih.1 (by omega) (fun j hj => ?_) (fun a _ => absurd a hf), F2 ih.2 (by rw [aH]; exact hn.1)⟩
   rw [aH] at hj
   rw [aR hj]; exact HY hw.1 (by omega)
theorem BG {c : Ci} (hc : bX c) {b : List Int} (hb : eS b) : fB c (bC c b) ∧ pX (bC c b) 1000000000 := by
 have := Ap hc hb c.chans.length (Nat.le_refl _)
 exact ⟨this.1, fun n => Nat.le_trans (this.2 n) (by omega)⟩
theorem vQ {c : Ci} (hc : bX c) : ∀ (l : List Int) {s : Ns} {k : Nat}, fB c s → pX s k → fB c (b5 c s l) ∧ pX (b5 c s l) (k + l.length)
 | [], s, k, h1, h2 => ⟨h1, h2⟩
 | x :: r, s, k, h1, h2 => by
  have := vQ hc r (Dr hc h1 (sZ (x % c.procs.length))) (D0 (w := sZ (x % c.procs.length)) hc h2)
  refine ⟨this.1, fun n => ?_⟩
  have h3 := this.2 n
  show (jJ (b5 c _ r) n).length ≤ _
  simp only [List.length_cons]; omega
set_option maxRecDepth 100000
theorem GX {s : Ns} {k : Nat} (h : s.chans.all (fun l => decide (l.length ≤ k)) = true) : pX s k := fun n => by
 by_cases hn : n < s.chans.length
 ·rw [List.all_eq_true] at h
  have := h _ (t4 (d := []) hn)
  simpa using this
 ·show (s.chans.getD n []).length ≤ k
  rw [List.getD, List.getElem?_eq_none (by omega)]; simp
theorem Aq {s : Sg} {b : List Int} (hb : eS b) (i : Nat) : dt s.sc (aN s b i).1 = some 1 ∧ eu (aN s b i).1 ≤ 3 := by
 unfold aN
 split
 ·have h := rJ (s := s) hb 2 (i + 1) 1 (by omega) (by omega) (by omega)
  exact ⟨h.1, by have := h.2.1; omega⟩
 ·exact ⟨rfl, by show eu gb ≤ 3; decide⟩
theorem HZ (y : Int) (f : Nat → Rg) (hf : ∀ k, (f k).w = bm y k) : (⟨(tab f (oM y)).map (·.w), [], []⟩ : Sc) = (Iy y).sc := by
 have : (tab f (oM y)).map (·.w) = Ix y := by
  unfold Ix tab
  rw [List.map_map]
  exact List.map_congr_left (fun k _ => hf k)
 rw [this]; rfl
theorem H0 (y : Int) (n : Nat) (f : Nat → Rg) (g : Nat → Tk) (hf : ∀ k, (f k).w = bm y k) (hg : ∀ k, (g k).w = 2) : (⟨(tab f (oM y)).map (·.w), [], (tab g n).map (·.w)⟩ : Sc) = (xd y n).sc := by
 have e1 : (tab f (oM y)).map (·.w) = Ix y := by
  unfold Ix tab
  rw [List.map_map]
  exact List.map_congr_left (fun k _ => hf k)
 have e2 : (tab g n).map (·.w) = List.replicate n 2 := by
  apply List.ext_getElem
  ·simp [aH]
  ·intro i h1 h2
   simp [tab, hg]
 rw [e1, e2]; rfl
theorem F3 {b : List Int} (hb : eS b) {i : Nat} {nm : ByteArray} {e : En} (ht : e.takes.length ≤ 2) (hp : e.puts.length ≤ 2) : ga (bj b i nm e).1 := by
 have hy := bS hb i
 have hn := vN hy.1
 have hs0 : Hv (bj b i nm e).1 = (Iy (b.getD i 0)).sc := HZ _ _ (fun k => rfl)
 have hs1 : lm (bj b i nm e).1 = (xd (b.getD i 0) e.takes.length).sc := H0 _ _ _ _ (fun k => rfl) (fun k => rfl)
 have l1 : (bj b i nm e).1.regs.length = oM (b.getD i 0) := aH _ _
 have l2 : (bj b i nm e).1.takes.length = e.takes.length := aH _ _
 have l3 : (bj b i nm e).1.puts.length = e.puts.length := aH _ _
 have l4 : (bj b i nm e).1.mems.length = 0 := rfl
 refine ⟨by omega, by omega, by omega, by omega, fun k hk => ?_, fun k hk => by omega, fun k hk => ?_, fun k hk => ?_⟩
 ·rw [hs1]
  rw [l1] at hk
  have e1 : zN (bj b i nm e).1 k = Jq b (b.getD i 0) e.takes.length (kI b i e) k := aR hk
  rw [e1]
  have hw := vL (b.getD i 0) k
  have h := rJ (s := xd (b.getD i 0) e.takes.length) hb 3 (vH b (b.getD i 0) e.takes.length (kI b i e) k) (bm (b.getD i 0) k) (by omega) (by omega) (by omega)
  refine ⟨aP.2 (by show 1 ≤ bm (b.getD i 0) k ∧ bm (b.getD i 0) k ≤ 8; omega), ?_, h.1, by have := h.2.1; show eu (an _ b 3 _ _).1 ≤ 3; omega⟩
  show cE (b.getD i 0 / 8 % 2 ^ (bm (b.getD i 0) k).toNat) (bm (b.getD i 0) k)
  unfold cE
  rw [cJ (by omega) (by omega)]
  have hp2 : (0 : Int) < 2 ^ (bm (b.getD i 0) k).toNat := Int.pow_pos (by omega)
  exact ⟨Int.emod_nonneg _ (by omega), by have := Int.emod_lt_of_pos (b.getD i 0 / 8) hp2; omega⟩
 ·rw [hs0]
  rw [l2] at hk
  have e1 : lY (bj b i nm e).1 k = B2 b (b.getD i 0) (i + 1) e k := aR hk
  rw [e1]
  exact ⟨rfl, Aq hb _⟩
 ·rw [hs1]
  rw [l3] at hk
  have e1 : pu (bj b i nm e).1 k = EZ b (b.getD i 0) e.takes.length (km b i e) e k := aR hk
  rw [e1]
  have h := rJ (s := xd (b.getD i 0) e.takes.length) hb 2 (aN (xd (b.getD i 0) e.takes.length) b (r6 b (b.getD i 0) e.takes.length (km b i e) k)).2 2 (by omega) (by omega) (by omega)
  exact ⟨rfl, Aq hb _, h.1, by have := h.2.1; show eu (an _ b 2 _ _).1 ≤ 3; omega⟩
def Js (l : List En) : Prop := ∀ i, i < l.length → ∀ j, j < (l.getD i b8).takes.length → 0 ≤ (l.getD i b8).takes.getD j 0 ∧ (l.getD i b8).takes.getD j 0 < ow l l.length + 1 ∧ vO l ((l.getD i b8).takes.getD j 0) l.length = (i : Int)
def Jt (l : List En) : Prop := ∀ i, i < l.length → ∀ j, j < (l.getD i b8).puts.length → 0 ≤ (l.getD i b8).puts.getD j 0 ∧ (l.getD i b8).puts.getD j 0 < ow l l.length + 1 ∧ vP l ((l.getD i b8).puts.getD j 0) l.length = (i : Int)
def Ju (l : List En) : Prop := ∀ i, i < l.length → ∀ j, j < (l.getD i b8).takes.length → ∀ k, k < (l.getD i b8).takes.length → (l.getD i b8).takes.getD j 0 = (l.getD i b8).takes.getD k 0 → j = k
def Jv (l : List En) : Prop := ∀ i, i < l.length → ∀ j, j < (l.getD i b8).puts.length → ∀ k, k < (l.getD i b8).puts.length → (l.getD i b8).puts.getD j 0 = (l.getD i b8).puts.getD k 0 → j = k
theorem Jw (sh : Int) : Js (ai sh) ∧ Jt (ai sh) ∧ Ju (ai sh) ∧ Jv (ai sh) := by
 unfold Js Jt Ju Jv
 rcases jZ sh with h | h | h | h | h | h <;> rw [h] <;> decide
theorem Jx {sh : Int} {b : List Int} (h0 : 0 ≤ sh) (h1 : sh ≤ 255) (hb : eS b) : bX (az sh b) := by
 have hpl := kJ sh
 have hnc := yL sh
 obtain ⟨q1, q2, q3, q4⟩ := Jw sh
 have lp : (az sh b).procs.length = (ai sh).length := aH _ _
 have lc : (az sh b).chans.length = jn sh := aH _ _
 have gp : ∀ i, i < (ai sh).length → bx (az sh b) i = mt b (ai sh) i := fun i hi => aR hi
 have gc : ∀ n, n < jn sh → eI (az sh b) n = r8 sh (ai sh) n := fun n hn => aR hn
 have ltk : ∀ i, (mt b (ai sh) i).takes.length = ((ai sh).getD i b8).takes.length := fun i => aH _ _
 have lpt : ∀ i, (mt b (ai sh) i).puts.length = ((ai sh).getD i b8).puts.length := fun i => aH _ _
 have ctk : ∀ i j, j < ((ai sh).getD i b8).takes.length → (lY (mt b (ai sh) i) j).chan = ((ai sh).getD i b8).takes.getD j 0 ∧ (lY (mt b (ai sh) i) j).w = 2 := fun i j hj => by
  have : lY (mt b (ai sh) i) j = B2 b _ _ ((ai sh).getD i b8) j := aR hj
  rw [this]; exact ⟨rfl, rfl⟩
 have cpt : ∀ i j, j < ((ai sh).getD i b8).puts.length → (pu (mt b (ai sh) i) j).chan = ((ai sh).getD i b8).puts.getD j 0 ∧ (pu (mt b (ai sh) i) j).w = 2 := fun i j hj => by
  have : pu (mt b (ai sh) i) j = EZ b _ _ _ ((ai sh).getD i b8) j := aR hj
  rw [this]; exact ⟨rfl, rfl⟩
 have cast : ∀ x : Int, 0 ≤ x → ((x.toNat : Nat) : Int) = x := fun x hx => by omega
 refine ⟨by omega, by omega, by omega, fun i hi => ?_, fun i hi j hj => ?_, fun i hi j hj => ?_, fun i hi j k hj hk he => ?_, fun i hi j k hj hk he => ?_, fun n hn => ?_, fun n hn => ?_⟩
 ·rw [lp] at hi
  rw [gp i hi]
  have he := lF sh i
  exact F3 hb he.1 he.2
 ·rw [lp] at hi
  rw [gp i hi] at hj ⊢
  rw [ltk] at hj
  obtain ⟨a1, a2, a3⟩ := q1 i hi j hj
  obtain ⟨c1, c2⟩ := ctk i j hj
  have e : tV (mt b (ai sh) i) j = (((ai sh).getD i b8).takes.getD j 0).toNat := by show (lY _ j).chan.toNat = _; rw [c1]
  rw [c1, c2, e, gc _ (by omega), lc]
  refine ⟨a1, by omega, rfl, ?_⟩
  show vO _ _ _ = _
  rw [cast _ a1]; exact a3
 ·rw [lp] at hi
  rw [gp i hi] at hj ⊢
  rw [lpt] at hj
  obtain ⟨a1, a2, a3⟩ := q2 i hi j hj
  obtain ⟨c1, c2⟩ := cpt i j hj
  have e : qx (mt b (ai sh) i) j = (((ai sh).getD i b8).puts.getD j 0).toNat := by show (pu _ j).chan.toNat = _; rw [c1]
  rw [c1, c2, e, gc _ (by omega), lc]
  refine ⟨a1, by omega, rfl, ?_⟩
  show vP _ _ _ = _
  rw [cast _ a1]; exact a3
 ·rw [lp] at hi
  rw [gp i hi] at hj hk he
  rw [ltk] at hj hk
  have a1 := (q1 i hi j hj).1
  have a2 := (q1 i hi k hk).1
  have e1 : tV (mt b (ai sh) i) j = (((ai sh).getD i b8).takes.getD j 0).toNat := by show (lY _ j).chan.toNat = _; rw [(ctk i j hj).1]
  have e2 : tV (mt b (ai sh) i) k = (((ai sh).getD i b8).takes.getD k 0).toNat := by show (lY _ k).chan.toNat = _; rw [(ctk i k hk).1]
  exact q3 i hi j hj k hk (by omega)
 ·rw [lp] at hi
  rw [gp i hi] at hj hk he
  rw [lpt] at hj hk
  have a1 := (q2 i hi j hj).1
  have a2 := (q2 i hi k hk).1
  have e1 : qx (mt b (ai sh) i) j = (((ai sh).getD i b8).puts.getD j 0).toNat := by show (pu _ j).chan.toNat = _; rw [(cpt i j hj).1]
  have e2 : qx (mt b (ai sh) i) k = (((ai sh).getD i b8).puts.getD k 0).toNat := by show (pu _ k).chan.toNat = _; rw [(cpt i k hk).1]
  exact q4 i hi j hj k hk (by omega)
 ·rw [lc] at hn
  rw [gc n hn]; rfl
 ·rw [lc] at hn
  rw [gc n hn]
  show (0 : Int) ≤ if _ then _ else _
  split
  ·exact Int.add_nonneg (by decide) (Int.emod_nonneg _ (by decide))
  ·exact Int.le_refl 0
end Go.Proofs.Ytnlmlkbaflmgcaa
