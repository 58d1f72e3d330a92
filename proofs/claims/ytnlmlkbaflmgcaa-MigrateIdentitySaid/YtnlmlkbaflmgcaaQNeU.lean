/-
  Made circuits are well made.
-/
import Derived.Test.YtnlmlkbaflmgcaaQNeN
namespace Go.Proofs.Ytnlmlkbaflmgcaa
open Go.RowKit
set_option linter.unusedVariables false
set_option linter.unusedSimpArgs false
theorem xt {l : List Int} {n : Nat} (h : fQ l) : fQ (l.take n) := fun x hx => h x (List.mem_of_mem_take hx)
theorem Es {p : Pr} (hp : gi p) : kQ p (bq p) where
 rl := by simp [bq]
 rv := fun i hi => by
  rw [show (bq p).regs = p.regs.map (·.init) from rfl]
  have := (hp.rw i hi).2.1
  simpa [List.getD, List.getElem?_map, List.getElem?_eq_getElem hi] using this
 ml := by simp [bq]
 mn := fun i hi => by
  have h2 := (hp.mw i hi).2.1
  rw [show (bq p).mems = p.mems.map (fun m => List.replicate m.words.toNat 0) from rfl]
  have : (p.mems.map (fun m => List.replicate m.words.toNat (0 : Int))).getD i [] = List.replicate (dK p i).words.toNat 0 := by
   simp [List.getD, List.getElem?_map, List.getElem?_eq_getElem hi]
  rw [this, List.length_replicate]; omega
 mv := fun i hi j hj => by
  rw [show (bq p).mems = p.mems.map (fun m => List.replicate m.words.toNat 0) from rfl] at hj ⊢
  have : (p.mems.map (fun m => List.replicate m.words.toNat (0 : Int))).getD i [] = List.replicate (dK p i).words.toNat 0 := by
   simp [List.getD, List.getElem?_map, List.getElem?_eq_getElem hi]
  rw [this, cY]
  exact nf (hp.mw i hi).1
theorem Et {c : Ci} (hc : bS c) : er c (dF c) where
 pl := by simp [dF, aJ]
 cl := by simp [dF]
 pv := fun i hi => by
  show kQ _ ((tab _ _).getD i aW)
  rw [aL hi]; exact Es (hc.pr i hi)
 cv := fun n hn i hi => by
  have h0 : jL (dF c) n = [] := by show (List.replicate _ _).getD n [] = []; exact cY
  rw [h0] at hi; simp at hi
 cc := fun n hn h1 h2 => by
  have h0 : jL (dF c) n = [] := by show (List.replicate _ _).getD n [] = []; exact cY
  rw [h0]
  simpa using hc.cp n hn
theorem Gh {c : Ci} {s : Ns} (hs : er c s) {n : Nat} (hn : n < c.chans.length) {l : List Int} (h1 : ∀ i, i < l.length → cg (l.getD i 0) (d9 c n).w) (h2 : 0 ≤ (d9 c n).frm → 0 ≤ (d9 c n).dst → (l.length : Int) ≤ (d9 c n).cap) : er c (gv s n l) where
 pl := hs.pl
 cl := by show (s.chans.set n l).length = _; rw [List.length_set]; exact hs.cl
 pv := hs.pv
 cv := fun m hm i hi => by
  have e : jL (gv s n l) m = if n = m then l else jL s m := fF (by rw [hs.cl]; exact hn)
  rw [e] at hi ⊢
  split at hi
  ·rename_i h; subst h; rw [if_pos rfl]; exact h1 i hi
  ·rename_i h; rw [if_neg h]; exact hs.cv m hm i hi
 cc := fun m hm a b => by
  have e : jL (gv s n l) m = if n = m then l else jL s m := fF (by rw [hs.cl]; exact hn)
  rw [e]
  split
  ·rename_i h; subst h; exact h2 a b
  ·exact hs.cc m hm a b
theorem Gi {s : Ns} {k n : Nat} {l : List Int} (h : qq s k) (hl : l.length ≤ k) : qq (gv s n l) k := fun m => by
 by_cases hn : n < s.chans.length
 ·have e : jL (gv s n l) m = if n = m then l else jL s m := fF hn
  rw [e]; split
  ·exact hl
  ·exact h m
 ·have e : gv s n l = s := by show (⟨s.procs, s.chans.set n l⟩ : Ns) = s; rw [List.set_eq_of_length_le (by omega)]
  rw [e]; exact h m
theorem Il {b : List Int} {i : Nat} {w : Int} {k : Nat} (h1 : 1 ≤ w) (h2 : w ≤ 62) : cg (tp b i w k) w := by
 unfold tp cg
 rw [cI (by omega) h2]
 have hp : (0 : Int) < 2 ^ w.toNat := Int.pow_pos (by omega)
 exact ⟨Int.emod_nonneg _ (by omega), by have := Int.emod_lt_of_pos (b.getD (i + (1 + k)) 0) hp; omega⟩
theorem AR {c : Ci} (hc : bS c) {b : List Int} (hb : fQ b) : ∀ i, i ≤ c.chans.length → er c (sZ c b i).1 ∧ qq (sZ c b i).1 6
 | 0, _ => ⟨Et hc, fun n => by
  have : jL (dF c) n = [] := by show (List.replicate _ _).getD n [] = []; exact cY
  show (jL (dF c) n).length ≤ 6
  rw [this]; simp⟩
 | i + 1, h => by
  have ih := AR hc hb i (by omega)
  by_cases hf : 0 ≤ (d9 c i).frm
  ·rw [Eo hf]; exact ih
  ·rw [zb hf]
   have hw := aM.1 (hc.cw i (by omega))
   have hn := Em hb (sZ c b i).2
   refine ⟨Gh ih.1 (by omega) (fun j hj => ?_) (fun a _ => absurd a hf), Gi ih.2 (by rw [aJ]; exact hn.1)⟩
   rw [aJ] at hj
   rw [aL hj]; exact Il hw.1 (by omega)
theorem B6 {c : Ci} (hc : bS c) {b : List Int} (hb : fQ b) : er c (bG c b) ∧ qq (bG c b) 1000000000 := by
 have := AR hc hb c.chans.length (Nat.le_refl _)
 exact ⟨this.1, fun n => Nat.le_trans (this.2 n) (by omega)⟩
theorem v3 {c : Ci} (hc : bS c) : ∀ (l : List Int) {s : Ns} {k : Nat}, er c s → qq s k → er c (b8 c s l) ∧ qq (b8 c s l) (k + l.length)
 | [], s, k, h1, h2 => ⟨h1, h2⟩
 | x :: r, s, k, h1, h2 => by
  have := v3 hc r (DM hc h1 (ti (x % c.procs.length))) (Eh (w := ti (x % c.procs.length)) hc h2)
  refine ⟨this.1, fun n => ?_⟩
  have h3 := this.2 n
  show (jL (b8 c _ r) n).length ≤ _
  simp only [List.length_cons]; omega
set_option maxRecDepth 100000
theorem Hk {s : Ns} {k : Nat} (h : s.chans.all (fun l => decide (l.length ≤ k)) = true) : qq s k := fun n => by
 by_cases hn : n < s.chans.length
 ·rw [List.all_eq_true] at h
  have := h _ (uu (d := []) hn)
  simpa using this
 ·show (s.chans.getD n []).length ≤ k
  rw [List.getD, List.getElem?_eq_none (by omega)]; simp
theorem AU {s : Sg} {b : List Int} (hb : fQ b) (i : Nat) : dp s.sc (aP s b i).1 = some 1 ∧ eC (aP s b i).1 ≤ 3 := by
 unfold aP
 split
 ·have h := r7 (s := s) hb 2 (i + 1) 1 (by omega) (by omega) (by omega)
  exact ⟨h.1, by have := h.2.1; omega⟩
 ·exact ⟨rfl, by show eC gk ≤ 3; decide⟩
theorem Im (y : Int) (f : Nat → Rg) (hf : ∀ k, (f k).w = bo y k) : (⟨(tab f (oU y)).map (·.w), [], []⟩ : Sc) = (IZ y).sc := by
 have : (tab f (oU y)).map (·.w) = IY y := by
  unfold IY tab
  rw [List.map_map]
  exact List.map_congr_left (fun k _ => hf k)
 rw [this]; rfl
theorem Io (y : Int) (n : Nat) (f : Nat → Rg) (g : Nat → Tk) (hf : ∀ k, (f k).w = bo y k) (hg : ∀ k, (g k).w = 2) : (⟨(tab f (oU y)).map (·.w), [], (tab g n).map (·.w)⟩ : Sc) = (xp y n).sc := by
 have e1 : (tab f (oU y)).map (·.w) = IY y := by
  unfold IY tab
  rw [List.map_map]
  exact List.map_congr_left (fun k _ => hf k)
 have e2 : (tab g n).map (·.w) = List.replicate n 2 := by
  apply List.ext_getElem
  ·simp [aJ]
  ·intro i h1 h2
   simp [tab, hg]
 rw [e1, e2]; rfl
theorem Gj {b : List Int} (hb : fQ b) {i : Nat} {nm : ByteArray} {e : En} (ht : e.takes.length ≤ 2) (hp : e.puts.length ≤ 2) : gi (bj b i nm e).1 := by
 have hy := bW hb i
 have hn := v2 hy.1
 have hs0 : HO (bj b i nm e).1 = (IZ (b.getD i 0)).sc := Im _ _ (fun k => rfl)
 have hs1 : lC (bj b i nm e).1 = (xp (b.getD i 0) e.takes.length).sc := Io _ _ _ _ (fun k => rfl) (fun k => rfl)
 have l1 : (bj b i nm e).1.regs.length = oU (b.getD i 0) := aJ _ _
 have l2 : (bj b i nm e).1.takes.length = e.takes.length := aJ _ _
 have l3 : (bj b i nm e).1.puts.length = e.puts.length := aJ _ _
 have l4 : (bj b i nm e).1.mems.length = 0 := rfl
 refine ⟨by omega, by omega, by omega, by omega, fun k hk => ?_, fun k hk => by omega, fun k hk => ?_, fun k hk => ?_⟩
 ·rw [hs1]
  rw [l1] at hk
  have e1 : oT (bj b i nm e).1 k = JL b (b.getD i 0) e.takes.length (kU b i e) k := aL hk
  rw [e1]
  have hw := vZ (b.getD i 0) k
  have h := r7 (s := xp (b.getD i 0) e.takes.length) hb 3 (vV b (b.getD i 0) e.takes.length (kU b i e) k) (bo (b.getD i 0) k) (by omega) (by omega) (by omega)
  refine ⟨aM.2 (by show 1 ≤ bo (b.getD i 0) k ∧ bo (b.getD i 0) k ≤ 8; omega), ?_, h.1, by have := h.2.1; show eC (ao _ b 3 _ _).1 ≤ 3; omega⟩
  show cg (b.getD i 0 / 8 % 2 ^ (bo (b.getD i 0) k).toNat) (bo (b.getD i 0) k)
  unfold cg
  rw [cI (by omega) (by omega)]
  have hp2 : (0 : Int) < 2 ^ (bo (b.getD i 0) k).toNat := Int.pow_pos (by omega)
  exact ⟨Int.emod_nonneg _ (by omega), by have := Int.emod_lt_of_pos (b.getD i 0 / 8) hp2; omega⟩
 ·rw [hs0]
  rw [l2] at hk
  have e1 : mi (bj b i nm e).1 k = Cr b (b.getD i 0) (i + 1) e k := aL hk
  rw [e1]
  exact ⟨rfl, AU hb _⟩
 ·rw [hs1]
  rw [l3] at hk
  have e1 : pC (bj b i nm e).1 k = Fd b (b.getD i 0) e.takes.length (kz b i e) e k := aL hk
  rw [e1]
  have h := r7 (s := xp (b.getD i 0) e.takes.length) hb 2 (aP (xp (b.getD i 0) e.takes.length) b (sC b (b.getD i 0) e.takes.length (kz b i e) k)).2 2 (by omega) (by omega) (by omega)
  exact ⟨rfl, AU hb _, h.1, by have := h.2.1; show eC (ao _ b 2 _ _).1 ≤ 3; omega⟩
def JN (l : List En) : Prop := ∀ i, i < l.length → ∀ j, j < (l.getD i cb).takes.length → 0 ≤ (l.getD i cb).takes.getD j 0 ∧ (l.getD i cb).takes.getD j 0 < oC l l.length + 1 ∧ uB l ((l.getD i cb).takes.getD j 0) l.length = (i : Int)
def JO (l : List En) : Prop := ∀ i, i < l.length → ∀ j, j < (l.getD i cb).puts.length → 0 ≤ (l.getD i cb).puts.getD j 0 ∧ (l.getD i cb).puts.getD j 0 < oC l l.length + 1 ∧ uC l ((l.getD i cb).puts.getD j 0) l.length = (i : Int)
def JP (l : List En) : Prop := ∀ i, i < l.length → ∀ j, j < (l.getD i cb).takes.length → ∀ k, k < (l.getD i cb).takes.length → (l.getD i cb).takes.getD j 0 = (l.getD i cb).takes.getD k 0 → j = k
def JQ (l : List En) : Prop := ∀ i, i < l.length → ∀ j, j < (l.getD i cb).puts.length → ∀ k, k < (l.getD i cb).puts.length → (l.getD i cb).puts.getD j 0 = (l.getD i cb).puts.getD k 0 → j = k
theorem JR (sh : Int) : JN (ai sh) ∧ JO (ai sh) ∧ JP (ai sh) ∧ JQ (ai sh) := by
 unfold JN JO JP JQ
 rcases j5 sh with h | h | h | h | h | h <;> rw [h] <;> decide
theorem JS {sh : Int} {b : List Int} (h0 : 0 ≤ sh) (h1 : sh ≤ 255) (hb : fQ b) : bS (ay sh b) := by
 have hpl := kV sh
 have hnc := za sh
 obtain ⟨q1, q2, q3, q4⟩ := JR sh
 have lp : (ay sh b).procs.length = (ai sh).length := aJ _ _
 have lc : (ay sh b).chans.length = jr sh := aJ _ _
 have gp : ∀ i, i < (ai sh).length → aZ (ay sh b) i = mK b (ai sh) i := fun i hi => aL hi
 have gc : ∀ n, n < jr sh → d9 (ay sh b) n = qP sh (ai sh) n := fun n hn => aL hn
 have ltk : ∀ i, (mK b (ai sh) i).takes.length = ((ai sh).getD i cb).takes.length := fun i => aJ _ _
 have lpt : ∀ i, (mK b (ai sh) i).puts.length = ((ai sh).getD i cb).puts.length := fun i => aJ _ _
 have ctk : ∀ i j, j < ((ai sh).getD i cb).takes.length → (mi (mK b (ai sh) i) j).chan = ((ai sh).getD i cb).takes.getD j 0 ∧ (mi (mK b (ai sh) i) j).w = 2 := fun i j hj => by
  have : mi (mK b (ai sh) i) j = Cr b _ _ ((ai sh).getD i cb) j := aL hj
  rw [this]; exact ⟨rfl, rfl⟩
 have cpt : ∀ i j, j < ((ai sh).getD i cb).puts.length → (pC (mK b (ai sh) i) j).chan = ((ai sh).getD i cb).puts.getD j 0 ∧ (pC (mK b (ai sh) i) j).w = 2 := fun i j hj => by
  have : pC (mK b (ai sh) i) j = Fd b _ _ _ ((ai sh).getD i cb) j := aL hj
  rw [this]; exact ⟨rfl, rfl⟩
 have cast : ∀ x : Int, 0 ≤ x → ((x.toNat : Nat) : Int) = x := fun x hx => by omega
 refine ⟨by omega, by omega, by omega, fun i hi => ?_, fun i hi j hj => ?_, fun i hi j hj => ?_, fun i hi j k hj hk he => ?_, fun i hi j k hj hk he => ?_, fun n hn => ?_, fun n hn => ?_⟩
 ·rw [lp] at hi
  rw [gp i hi]
  have he := lQ sh i
  exact Gj hb he.1 he.2
 ·rw [lp] at hi
  rw [gp i hi] at hj ⊢
  rw [ltk] at hj
  obtain ⟨a1, a2, a3⟩ := q1 i hi j hj
  obtain ⟨c1, c2⟩ := ctk i j hj
  have e : ue (mK b (ai sh) i) j = (((ai sh).getD i cb).takes.getD j 0).toNat := by show (mi _ j).chan.toNat = _; rw [c1]
  rw [c1, c2, e, gc _ (by omega), lc]
  refine ⟨a1, by omega, rfl, ?_⟩
  show uB _ _ _ = _
  rw [cast _ a1]; exact a3
 ·rw [lp] at hi
  rw [gp i hi] at hj ⊢
  rw [lpt] at hj
  obtain ⟨a1, a2, a3⟩ := q2 i hi j hj
  obtain ⟨c1, c2⟩ := cpt i j hj
  have e : qI (mK b (ai sh) i) j = (((ai sh).getD i cb).puts.getD j 0).toNat := by show (pC _ j).chan.toNat = _; rw [c1]
  rw [c1, c2, e, gc _ (by omega), lc]
  refine ⟨a1, by omega, rfl, ?_⟩
  show uC _ _ _ = _
  rw [cast _ a1]; exact a3
 ·rw [lp] at hi
  rw [gp i hi] at hj hk he
  rw [ltk] at hj hk
  have a1 := (q1 i hi j hj).1
  have a2 := (q1 i hi k hk).1
  have e1 : ue (mK b (ai sh) i) j = (((ai sh).getD i cb).takes.getD j 0).toNat := by show (mi _ j).chan.toNat = _; rw [(ctk i j hj).1]
  have e2 : ue (mK b (ai sh) i) k = (((ai sh).getD i cb).takes.getD k 0).toNat := by show (mi _ k).chan.toNat = _; rw [(ctk i k hk).1]
  exact q3 i hi j hj k hk (by omega)
 ·rw [lp] at hi
  rw [gp i hi] at hj hk he
  rw [lpt] at hj hk
  have a1 := (q2 i hi j hj).1
  have a2 := (q2 i hi k hk).1
  have e1 : qI (mK b (ai sh) i) j = (((ai sh).getD i cb).puts.getD j 0).toNat := by show (pC _ j).chan.toNat = _; rw [(cpt i j hj).1]
  have e2 : qI (mK b (ai sh) i) k = (((ai sh).getD i cb).puts.getD k 0).toNat := by show (pC _ k).chan.toNat = _; rw [(cpt i k hk).1]
  exact q4 i hi j hj k hk (by omega)
 ·rw [lc] at hn
  rw [gc n hn]; rfl
 ·rw [lc] at hn
  rw [gc n hn]
  show (0 : Int) ≤ if _ then _ else _
  split
  ·exact Int.add_nonneg (by decide) (Int.emod_nonneg _ (by decide))
  ·exact Int.le_refl 0
end Go.Proofs.Ytnlmlkbaflmgcaa
