/-
  Made circuits are well made.
-/
import Derived.Test.YtnlmlkbaflmgcaaQNeN
namespace Go.Proofs.Ytnlmlkbaflmgcaa
open Go.RowKit
set_option linter.unusedVariables false
set_option linter.unusedSimpArgs false
theorem xk {l : List Int} {n : Nat} (h : f8 l) : f8 (l.take n) := fun x hx => h x (List.mem_of_mem_take hx)
theorem Er {p : Pr} (hp : im p) : pA p (bo p) where
 rl := by simp [bo]
 rv := fun i hi => by
  rw [show (bo p).regs = p.regs.map (·.init) from rfl]
  have := (hp.rw i hi).2.1
  simpa [List.getD, List.getElem?_map, List.getElem?_eq_getElem hi] using this
 ml := by simp [bo]
 mn := fun i hi => by
  have h2 := (hp.mw i hi).2.1
  rw [show (bo p).mems = p.mems.map (fun m => List.replicate m.words.toNat 0) from rfl]
  have : (p.mems.map (fun m => List.replicate m.words.toNat (0 : Int))).getD i [] = List.replicate (jX p i).words.toNat 0 := by
   simp [List.getD, List.getElem?_map, List.getElem?_eq_getElem hi]
  rw [this, List.length_replicate]; omega
 mv := fun i hi j hj => by
  rw [show (bo p).mems = p.mems.map (fun m => List.replicate m.words.toNat 0) from rfl] at hj ⊢
  have : (p.mems.map (fun m => List.replicate m.words.toNat (0 : Int))).getD i [] = List.replicate (jX p i).words.toNat 0 := by
   simp [List.getD, List.getElem?_map, List.getElem?_eq_getElem hi]
  rw [this, cC]
  exact ni (hp.mw i hi).1
theorem Es {c : Ci} (hc : b5 c) : gC c (dQ c) where
 pl := by simp [dQ, aL]
 cl := by simp [dQ]
 pv := fun i hi => by
  show pA _ ((tab _ _).getD i aX)
  rw [aY hi]; exact Er (hc.pr i hi)
 cv := fun n hn i hi => by
  have h0 : oq (dQ c) n = [] := by show (List.replicate _ _).getD n [] = []; exact cC
  rw [h0] at hi; simp at hi
 cc := fun n hn h1 h2 => by
  have h0 : oq (dQ c) n = [] := by show (List.replicate _ _).getD n [] = []; exact cC
  rw [h0]
  simpa using hc.cp n hn
theorem Gc {c : Ci} {s : Ns} (hs : gC c s) {n : Nat} (hn : n < c.chans.length) {l : List Int} (h1 : ∀ i, i < l.length → dG (l.getD i 0) (i3 c n).w) (h2 : 0 ≤ (i3 c n).frm → 0 ≤ (i3 c n).dst → (l.length : Int) ≤ (i3 c n).cap) : gC c (gK s n l) where
 pl := hs.pl
 cl := by show (s.chans.set n l).length = _; rw [List.length_set]; exact hs.cl
 pv := hs.pv
 cv := fun m hm i hi => by
  have e : oq (gK s n l) m = if n = m then l else oq s m := fP (by rw [hs.cl]; exact hn)
  rw [e] at hi ⊢
  split at hi
  ·rename_i h; subst h; rw [if_pos rfl]; exact h1 i hi
  ·rename_i h; rw [if_neg h]; exact hs.cv m hm i hi
 cc := fun m hm a b => by
  have e : oq (gK s n l) m = if n = m then l else oq s m := fP (by rw [hs.cl]; exact hn)
  rw [e]
  split
  ·rename_i h; subst h; exact h2 a b
  ·exact hs.cc m hm a b
theorem Gd {s : Ns} {k n : Nat} {l : List Int} (h : sQ s k) (hl : l.length ≤ k) : sQ (gK s n l) k := fun m => by
 by_cases hn : n < s.chans.length
 ·have e : oq (gK s n l) m = if n = m then l else oq s m := fP hn
  rw [e]; split
  ·exact hl
  ·exact h m
 ·have e : gK s n l = s := by show (⟨s.procs, s.chans.set n l⟩ : Ns) = s; rw [List.set_eq_of_length_le (by omega)]
  rw [e]; exact h m
theorem Ir {b : List Int} {i : Nat} {w : Int} {k : Nat} (h1 : 1 ≤ w) (h2 : w ≤ 62) : dG (tb b i w k) w := by
 unfold tb dG
 rw [dM (by omega) h2]
 have hp : (0 : Int) < 2 ^ w.toNat := Int.pow_pos (by omega)
 exact ⟨Int.emod_nonneg _ (by omega), by have := Int.emod_lt_of_pos (b.getD (i + (1 + k)) 0) hp; omega⟩
theorem AH {c : Ci} (hc : b5 c) {b : List Int} (hb : f8 b) : ∀ i, i ≤ c.chans.length → gC c (sR c b i).1 ∧ sQ (sR c b i).1 6
 | 0, _ => ⟨Es hc, fun n => by
  have : oq (dQ c) n = [] := by show (List.replicate _ _).getD n [] = []; exact cC
  show (oq (dQ c) n).length ≤ 6
  rw [this]; simp⟩
 | i + 1, h => by
  have ih := AH hc hb i (by omega)
  by_cases hf : 0 ≤ (i3 c i).frm
  ·rw [Em hf]; exact ih
  ·rw [yP hf]
   have hw := aQ.1 (hc.cw i (by omega))
   have hn := El hb (sR c b i).2
   refine ⟨Gc ih.1 (by omega) (fun j hj => ?_) (fun a _ => absurd a hf), Gd ih.2 (by rw [aL]; exact hn.1)⟩
   rw [aL] at hj
   rw [aY hj]; exact Ir hw.1 (by omega)
theorem BR {c : Ci} (hc : b5 c) {b : List Int} (hb : f8 b) : gC c (bJ c b) ∧ sQ (bJ c b) 1000000000 := by
 have := AH hc hb c.chans.length (Nat.le_refl _)
 exact ⟨this.1, fun n => Nat.le_trans (this.2 n) (by omega)⟩
theorem vS {c : Ci} (hc : b5 c) : ∀ (l : List Int) {s : Ns} {k : Nat}, gC c s → sQ s k → gC c (cb c s l) ∧ sQ (cb c s l) (k + l.length)
 | [], s, k, h1, h2 => ⟨h1, h2⟩
 | x :: r, s, k, h1, h2 => by
  have := vS hc r (DA hc h1 (s8 (x % c.procs.length))) (Eg (w := s8 (x % c.procs.length)) hc h2)
  refine ⟨this.1, fun n => ?_⟩
  have h3 := this.2 n
  show (oq (cb c _ r) n).length ≤ _
  simp only [List.length_cons]; omega
set_option maxRecDepth 100000
theorem Hc {s : Ns} {k : Nat} (h : s.chans.all (fun l => decide (l.length ≤ k)) = true) : sQ s k := fun n => by
 by_cases hn : n < s.chans.length
 ·rw [List.all_eq_true] at h
  have := h _ (ub (d := []) hn)
  simpa using this
 ·show (s.chans.getD n []).length ≤ k
  rw [List.getD, List.getElem?_eq_none (by omega)]; simp
theorem AI {s : Sg} {b : List Int} (hb : f8 b) (i : Nat) : dA s.sc (aN s b i).1 = some 1 ∧ eI (aN s b i).1 ≤ 3 := by
 unfold aN
 split
 ·have h := rS (s := s) hb 2 (i + 1) 1 (by omega) (by omega) (by omega)
  exact ⟨h.1, by have := h.2.1; omega⟩
 ·exact ⟨rfl, by show eI gD ≤ 3; decide⟩
theorem It (y : Int) (f : Nat → Rg) (hf : ∀ k, (f k).w = bl y k) : (⟨(tab f (oS y)).map (·.w), [], []⟩ : Sc) = (I4 y).sc := by
 have : (tab f (oS y)).map (·.w) = I3 y := by
  unfold I3 tab
  rw [List.map_map]
  exact List.map_congr_left (fun k _ => hf k)
 rw [this]; rfl
theorem Iu (y : Int) (n : Nat) (f : Nat → Rg) (g : Nat → Tk) (hf : ∀ k, (f k).w = bl y k) (hg : ∀ k, (g k).w = 2) : (⟨(tab f (oS y)).map (·.w), [], (tab g n).map (·.w)⟩ : Sc) = (xh y n).sc := by
 have e1 : (tab f (oS y)).map (·.w) = I3 y := by
  unfold I3 tab
  rw [List.map_map]
  exact List.map_congr_left (fun k _ => hf k)
 have e2 : (tab g n).map (·.w) = List.replicate n 2 := by
  apply List.ext_getElem
  ·simp [aL]
  ·intro i h1 h2
   simp [tab, hg]
 rw [e1, e2]; rfl
theorem Ge {b : List Int} (hb : f8 b) {i : Nat} {nm : ByteArray} {e : En} (ht : e.takes.length ≤ 2) (hp : e.puts.length ≤ 2) : im (bg b i nm e).1 := by
 have hy := bZ hb i
 have hn := vP hy.1
 have hs0 : HH (bg b i nm e).1 = (I4 (b.getD i 0)).sc := It _ _ (fun k => rfl)
 have hs1 : lK (bg b i nm e).1 = (xh (b.getD i 0) e.takes.length).sc := Iu _ _ _ _ (fun k => rfl) (fun k => rfl)
 have l1 : (bg b i nm e).1.regs.length = oS (b.getD i 0) := aL _ _
 have l2 : (bg b i nm e).1.takes.length = e.takes.length := aL _ _
 have l3 : (bg b i nm e).1.puts.length = e.puts.length := aL _ _
 have l4 : (bg b i nm e).1.mems.length = 0 := rfl
 refine ⟨by omega, by omega, by omega, by omega, fun k hk => ?_, fun k hk => by omega, fun k hk => ?_, fun k hk => ?_⟩
 ·rw [hs1]
  rw [l1] at hk
  have e1 : Dp (bg b i nm e).1 k = JS b (b.getD i 0) e.takes.length (kZ b i e) k := aY hk
  rw [e1]
  have hw := vN (b.getD i 0) k
  have h := rS (s := xh (b.getD i 0) e.takes.length) hb 3 (vJ b (b.getD i 0) e.takes.length (kZ b i e) k) (bl (b.getD i 0) k) (by omega) (by omega) (by omega)
  refine ⟨aQ.2 (by show 1 ≤ bl (b.getD i 0) k ∧ bl (b.getD i 0) k ≤ 8; omega), ?_, h.1, by have := h.2.1; show eI (an _ b 3 _ _).1 ≤ 3; omega⟩
  show dG (b.getD i 0 / 8 % 2 ^ (bl (b.getD i 0) k).toNat) (bl (b.getD i 0) k)
  unfold dG
  rw [dM (by omega) (by omega)]
  have hp2 : (0 : Int) < 2 ^ (bl (b.getD i 0) k).toNat := Int.pow_pos (by omega)
  exact ⟨Int.emod_nonneg _ (by omega), by have := Int.emod_lt_of_pos (b.getD i 0 / 8) hp2; omega⟩
 ·rw [hs0]
  rw [l2] at hk
  have e1 : mu (bg b i nm e).1 k = Cc b (b.getD i 0) (i + 1) e k := aY hk
  rw [e1]
  exact ⟨rfl, AI hb _⟩
 ·rw [hs1]
  rw [l3] at hk
  have e1 : pz (bg b i nm e).1 k = E7 b (b.getD i 0) e.takes.length (kF b i e) e k := aY hk
  rw [e1]
  have h := rS (s := xh (b.getD i 0) e.takes.length) hb 2 (aN (xh (b.getD i 0) e.takes.length) b (si b (b.getD i 0) e.takes.length (kF b i e) k)).2 2 (by omega) (by omega) (by omega)
  exact ⟨rfl, AI hb _, h.1, by have := h.2.1; show eI (an _ b 2 _ _).1 ≤ 3; omega⟩
def JU (l : List En) : Prop := ∀ i, i < l.length → ∀ j, j < (l.getD i cg).takes.length → 0 ≤ (l.getD i cg).takes.getD j 0 ∧ (l.getD i cg).takes.getD j 0 < oG l l.length + 1 ∧ vQ l ((l.getD i cg).takes.getD j 0) l.length = (i : Int)
def JV (l : List En) : Prop := ∀ i, i < l.length → ∀ j, j < (l.getD i cg).puts.length → 0 ≤ (l.getD i cg).puts.getD j 0 ∧ (l.getD i cg).puts.getD j 0 < oG l l.length + 1 ∧ vR l ((l.getD i cg).puts.getD j 0) l.length = (i : Int)
def JW (l : List En) : Prop := ∀ i, i < l.length → ∀ j, j < (l.getD i cg).takes.length → ∀ k, k < (l.getD i cg).takes.length → (l.getD i cg).takes.getD j 0 = (l.getD i cg).takes.getD k 0 → j = k
def JX (l : List En) : Prop := ∀ i, i < l.length → ∀ j, j < (l.getD i cg).puts.length → ∀ k, k < (l.getD i cg).puts.length → (l.getD i cg).puts.getD j 0 = (l.getD i cg).puts.getD k 0 → j = k
theorem JY (sh : Int) : JU (aj sh) ∧ JV (aj sh) ∧ JW (aj sh) ∧ JX (aj sh) := by
 unfold JU JV JW JX
 rcases kr sh with h | h | h | h | h | h <;> rw [h] <;> decide
theorem JZ {sh : Int} {b : List Int} (h0 : 0 ≤ sh) (h1 : sh ≤ 255) (hb : f8 b) : b5 (aB sh b) := by
 have hpl := k9 sh
 have hnc := yO sh
 obtain ⟨q1, q2, q3, q4⟩ := JY sh
 have lp : (aB sh b).procs.length = (aj sh).length := aL _ _
 have lc : (aB sh b).chans.length = jA sh := aL _ _
 have gp : ∀ i, i < (aj sh).length → bD (aB sh b) i = mP b (aj sh) i := fun i hi => aY hi
 have gc : ∀ n, n < jA sh → i3 (aB sh b) n = sk sh (aj sh) n := fun n hn => aY hn
 have ltk : ∀ i, (mP b (aj sh) i).takes.length = ((aj sh).getD i cg).takes.length := fun i => aL _ _
 have lpt : ∀ i, (mP b (aj sh) i).puts.length = ((aj sh).getD i cg).puts.length := fun i => aL _ _
 have ctk : ∀ i j, j < ((aj sh).getD i cg).takes.length → (mu (mP b (aj sh) i) j).chan = ((aj sh).getD i cg).takes.getD j 0 ∧ (mu (mP b (aj sh) i) j).w = 2 := fun i j hj => by
  have : mu (mP b (aj sh) i) j = Cc b _ _ ((aj sh).getD i cg) j := aY hj
  rw [this]; exact ⟨rfl, rfl⟩
 have cpt : ∀ i j, j < ((aj sh).getD i cg).puts.length → (pz (mP b (aj sh) i) j).chan = ((aj sh).getD i cg).puts.getD j 0 ∧ (pz (mP b (aj sh) i) j).w = 2 := fun i j hj => by
  have : pz (mP b (aj sh) i) j = E7 b _ _ _ ((aj sh).getD i cg) j := aY hj
  rw [this]; exact ⟨rfl, rfl⟩
 have cast : ∀ x : Int, 0 ≤ x → ((x.toNat : Nat) : Int) = x := fun x hx => by omega
 refine ⟨by omega, by omega, by omega, fun i hi => ?_, fun i hi j hj => ?_, fun i hi j hj => ?_, fun i hi j k hj hk he => ?_, fun i hi j k hj hk he => ?_, fun n hn => ?_, fun n hn => ?_⟩
 ·rw [lp] at hi
  rw [gp i hi]
  have he := l5 sh i
  exact Ge hb he.1 he.2
 ·rw [lp] at hi
  rw [gp i hi] at hj ⊢
  rw [ltk] at hj
  obtain ⟨a1, a2, a3⟩ := q1 i hi j hj
  obtain ⟨c1, c2⟩ := ctk i j hj
  have e : t1 (mP b (aj sh) i) j = (((aj sh).getD i cg).takes.getD j 0).toNat := by show (mu _ j).chan.toNat = _; rw [c1]
  rw [c1, c2, e, gc _ (by omega), lc]
  refine ⟨a1, by omega, rfl, ?_⟩
  show vQ _ _ _ = _
  rw [cast _ a1]; exact a3
 ·rw [lp] at hi
  rw [gp i hi] at hj ⊢
  rw [lpt] at hj
  obtain ⟨a1, a2, a3⟩ := q2 i hi j hj
  obtain ⟨c1, c2⟩ := cpt i j hj
  have e : qF (mP b (aj sh) i) j = (((aj sh).getD i cg).puts.getD j 0).toNat := by show (pz _ j).chan.toNat = _; rw [c1]
  rw [c1, c2, e, gc _ (by omega), lc]
  refine ⟨a1, by omega, rfl, ?_⟩
  show vR _ _ _ = _
  rw [cast _ a1]; exact a3
 ·rw [lp] at hi
  rw [gp i hi] at hj hk he
  rw [ltk] at hj hk
  have a1 := (q1 i hi j hj).1
  have a2 := (q1 i hi k hk).1
  have e1 : t1 (mP b (aj sh) i) j = (((aj sh).getD i cg).takes.getD j 0).toNat := by show (mu _ j).chan.toNat = _; rw [(ctk i j hj).1]
  have e2 : t1 (mP b (aj sh) i) k = (((aj sh).getD i cg).takes.getD k 0).toNat := by show (mu _ k).chan.toNat = _; rw [(ctk i k hk).1]
  exact q3 i hi j hj k hk (by omega)
 ·rw [lp] at hi
  rw [gp i hi] at hj hk he
  rw [lpt] at hj hk
  have a1 := (q2 i hi j hj).1
  have a2 := (q2 i hi k hk).1
  have e1 : qF (mP b (aj sh) i) j = (((aj sh).getD i cg).puts.getD j 0).toNat := by show (pz _ j).chan.toNat = _; rw [(cpt i j hj).1]
  have e2 : qF (mP b (aj sh) i) k = (((aj sh).getD i cg).puts.getD k 0).toNat := by show (pz _ k).chan.toNat = _; rw [(cpt i k hk).1]
  exact q4 i hi j hj k hk (by omega)
 ·rw [lc] at hn
  rw [gc n hn]; rfl
 ·rw [lc] at hn
  rw [gc n hn]
  show (0 : Int) ≤ if _ then _ else _
  split
  ·exact Int.add_nonneg (by decide) (Int.emod_nonneg _ (by decide))
  ·exact Int.le_refl 0
end Go.Proofs.Ytnlmlkbaflmgcaa
