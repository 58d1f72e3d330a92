/-
  The reference of package migrate, plain data: carried values; it agrees with the package where names differ.
-/
import Derived.Test.YtnlmlkbaflmgcaaQMjA
namespace Go.Proofs.Ytnlmlkbaflmgcaa
open Go.RowKit
set_option linter.unusedVariables false
set_option linter.unusedSimpArgs false
def Ae (f : Nat → ByteArray) (n : Nat) (k : ByteArray) : Int := cb (fun i => (f i).toList == k.toList) n
def gx (f : Nat → ByteArray) (n : Nat) : Prop := ∀ i, i < n → ∀ i', i' < i → f i' ≠ f i
theorem gx.inj {f : Nat → ByteArray} {n : Nat} (h : gx f n) {i j : Nat} (hi : i < n) (hj : j < n) (e : f i = f j) : i = j := by
 rcases Nat.lt_trichotomy i j with h1 | h1 | h1
 ·exact absurd e (h j hj i h1)
 ·exact h1
 ·exact absurd e.symm (h i hi j h1)
theorem yJ {f : Nat → ByteArray} {n j : Nat} (h : gx f n) (hj : j < n) : Ae f n (f j) = (j : Int) :=
 cC (by simp) (fun z hz => beq_eq_false_iff_ne.2 (fun e => h j hj z hz (toList_inj e))) hj
theorem DK {f : Nat → ByteArray} {n : Nat} {k : ByteArray} (h : ∀ j, j < n → f j ≠ k) : Ae f n k = -1 :=
 dT (fun z hz => beq_eq_false_iff_ne.2 (fun e => h z hz (toList_inj e)))
theorem Af (f : Nat → ByteArray) (n : Nat) (k : ByteArray) : (∃ j, j < n ∧ f j = k) ∨ ∀ j, j < n → f j ≠ k := by
 by_cases hh : ∃ j, j < n ∧ f j = k
 ·exact .inl hh
 ·exact .inr fun j hj e => hh ⟨j, hj, e⟩
theorem i4 {f : Nat → ByteArray} {n : Nat} (h : gx f n) (k : ByteArray) :
  (∃ j, j < n ∧ f j = k ∧ aW (bW [] f n) k = true ∧ ah 0 (bW [] f n) k = (j : Int) ∧ Ae f n k = (j : Int)) ∨
  ((∀ j, j < n → f j ≠ k) ∧ aW (bW [] f n) k = false ∧ Ae f n k = -1) := by
 by_cases hh : ∃ j, j < n ∧ f j = k
 ·obtain ⟨j, hj, e⟩ := hh
  subst e
  exact .inl ⟨j, hj, rfl, (yw n).2 ⟨j, hj, rfl⟩, vq n hj h, yJ h hj⟩
 ·have h1 : ∀ j, j < n → f j ≠ k := fun j hj e => hh ⟨j, hj, e⟩
  refine .inr ⟨h1, ?_, DK h1⟩
  cases hm : aW (bW [] f n) k
  ·rfl
  ·exact absurd ((yw n).1 hm) hh
structure d5 (c : Ci) : Prop where
 cn : gx (a6 c) c.chans.length
 pn : gx (kg c) c.procs.length
 rn : ∀ i, i < c.procs.length → gx (l5 (c.procs.getD i af)) (c.procs.getD i af).regs.length
 mn : ∀ i, i < c.procs.length → gx (sY (c.procs.getD i af)) (c.procs.getD i af).mems.length
theorem w7 {n : Ci} (h : gx (a6 n) n.chans.length) (o : Ci) (i : Nat) : ff o n i = BB o n i := by
 unfold ff BB jL
 rw [show oo n (a6 o i) = Ae (a6 n) n.chans.length (a6 o i) from rfl]
 rcases i4 h (a6 o i) with ⟨j, _, _, h1, h2, h3⟩ | ⟨_, h1, h3⟩
 ·rw [h1, h2, h3]
  rw [show decide ((j : Int) < 0) = false from decide_eq_false (by omega)]
  rfl
 ·rw [h1, h3]; rfl
theorem oq {n : Ci} (h : gx (a6 n) n.chans.length) (o : Ci) : ∀ k, aK o n k = GS o n k
 | 0 => rfl
 | k + 1 => by rw [aK, GS, oq h o k, w7 h]
theorem gy {f : Nat → Bool} {n : Nat} : (!cF (fun i => !f i) n) = true ↔ ∃ i, i < n ∧ f i = true := by
 rw [Bool.not_eq_true', ← Bool.not_eq_true, bi]
 constructor
 ·intro h
  refine Classical.byContradiction fun hn => h fun i hi => ?_
  cases hf : f i
  ·rfl
  ·exact absurd ⟨i, hi, hf⟩ hn
 ·intro ⟨i, hi, hf⟩ h
  have := h i hi
  rw [hf] at this; cases this
structure Sr where
 is : Bool
 p : Pr
 s : Ps
abbrev Jj : Sr := ⟨false, af, aZ⟩
def Jk (r : Rg) (f : Sr) : Int :=
 if f.is = true ∧ 2 ≤ r.rule.kind then DJ f.p r.rule.src
 else if f.is = true ∧ r.rule.kind = 1 then (if 0 ≤ DJ f.p r.name ∧ ¬(f.p.regs.getD (DJ f.p r.name).toNat aO).w = r.w then -1 else DJ f.p r.name) else -1
def DL (r : Rg) (f : Sr) : Int := if 0 ≤ Jk r f then kG (f.s.regs.getD (Jk r f).toNat 0) r.w else r.init
def w8 (r : Rg) (f : Sr) : Int := if r.rule.kind = 3 then kG (DL r f + kG r.rule.n r.w) r.w else DL r f
def Iw (m : Mm) (f : Sr) : Int :=
 if f.is = true ∧ 2 ≤ m.rule.kind then BC f.p m.rule.src
 else if f.is = true ∧ m.rule.kind = 1 then (if 0 ≤ BC f.p m.name ∧ (¬(f.p.mems.getD (BC f.p m.name).toNat aB).w = m.w ∨ ¬(f.p.mems.getD (BC f.p m.name).toNat aB).words = m.words) then -1 else BC f.p m.name) else -1
def DM (m : Mm) (f : Sr) (k : Nat) : Int := if 0 ≤ Iw m f ∧ k < (f.s.mems.getD (Iw m f).toNat []).length then kG ((f.s.mems.getD (Iw m f).toNat []).getD k 0) m.w else 0
def rV (m : Mm) (f : Sr) (k : Nat) : Int := if m.rule.kind = 3 then kG (DM m f k + kG m.rule.n m.w) m.w else DM m f k
theorem jY {a b w : Int} : kG (a + kG b w) w = kG (a + b) w := by
 unfold kG
 by_cases h : 0 ≤ w ∧ w ≤ 62
 ·rw [if_pos h, if_pos h, if_pos h]; exact Int.add_emod_emod _ _ _
 ·rw [if_neg h, if_neg h]
def t8 (p : Pr) (f : Sr) : Ps := ⟨tab (fun i => w8 (p.regs.getD i aO) f) p.regs.length, tab (fun i => tab (rV (p.mems.getD i aB) f) (p.mems.getD i aB).words.toNat) p.mems.length⟩
def Jl (o n : Ci) (s : Ns) (i : Nat) : Sr := if 0 ≤ FT o (kg n i) then ⟨true, o.procs.getD (FT o (kg n i)).toNat af, s.procs.getD (FT o (kg n i)).toNat aZ⟩ else Jj
def DN (o n : Ci) (s : Ns) (i : Nat) : Ps := t8 (n.procs.getD i af) (Jl o n s i)
def t9 (o n : Ci) : List ByteArray := GS o n o.chans.length
def mr (o n : Ci) (s : Ns) (i : Nat) : Bool := B1 (t9 o n) (a6 o i) && decide (0 < (s.chans.getD i []).length)
def Ag (o n : Ci) (s : Ns) (i : Nat) : List Int := if 0 ≤ oo o (a6 n i) ∧ B1 (t9 o n) (a6 o (oo o (a6 n i)).toNat) = false then s.chans.getD (oo o (a6 n i)).toNat [] else []
structure DP (o n : Ci) (s : Ns) : Prop extends oi o n s where
 rw : ∀ i, i < n.procs.length → ∀ j, j < (n.procs.getD i af).regs.length → 0 ≤ ((n.procs.getD i af).regs.getD j aO).w ∧ ((n.procs.getD i af).regs.getD j aO).w ≤ 62
 mw : ∀ i, i < n.procs.length → ∀ j, j < (n.procs.getD i af).mems.length → 0 ≤ ((n.procs.getD i af).mems.getD j aB).w ∧ ((n.procs.getD i af).mems.getD j aB).w ≤ 62
 sz : ∀ i j, ((s.procs.getD i aZ).mems.getD j []).length ≤ 1000000
theorem DQ {o : Ci} {s : Ns} {j : Nat} : ∀ (m : Nat), j < m → gx (kg o) m → ah ba (bc o s m) (kg o j) = dZ o s j
 | 0, h, _ => by omega
 | m + 1, h, hd => by
  rw [bc, ew]
  by_cases hj : j = m
  ·subst hj; rw [if_pos rfl]
  ·rw [if_neg (hd m (by omega) j (by omega))]
   exact DQ m (by omega) (fun i hi => hd i (by omega))
theorem DR {o : Ci} {s : Ns} {k : ByteArray} : ∀ (m : Nat), (∀ j, j < m → kg o j ≠ k) → ah ba (bc o s m) k = ba
 | 0, _ => rfl
 | m + 1, h => by
  rw [bc, ew, if_neg (fun e => h m (by omega) e.symm)]
  exact DR m (fun j hj => h j (by omega))
theorem FU (r : Rg) (hk : 0 ≤ r.rule.kind ∧ r.rule.kind ≤ 3) : eh ba r = w8 r Jj := by
 have h0 : mj ba r = false := by
  unfold mj
  have : vu ba r = false := rfl
  rw [this, if_neg (by simp)]
 have h1 : Jk r Jj = -1 := by unfold Jk; rw [if_neg (by simp), if_neg (by simp)]
 unfold eh bZ w8 DL oc d4
 rw [h0, h1]
 by_cases h3 : r.rule.kind = 3
 ·rw [if_neg (by show ¬r.rule.kind = 0; omega), if_pos h3, if_pos h3, jY]; rfl
 ·rw [if_neg h3, if_neg h3]; simp
theorem DS {o : Ci} {s : Ns} {k : Nat} (h : gx (l5 (o.procs.getD k af)) (o.procs.getD k af).regs.length) (r : Rg) (hk : 0 ≤ r.rule.kind ∧ r.rule.kind ≤ 3) :
  eh (dZ o s k) r = w8 r ⟨true, o.procs.getD k af, s.procs.getD k aZ⟩ := by
 generalize hp : o.procs.getD k af = p at h ⊢
 have e1 : (dZ o s k).regs = bW [] (l5 p) p.regs.length := by unfold dZ; rw [hp]
 have e2 : (dZ o s k).p = p := by unfold dZ; rw [hp]
 have e3 : (dZ o s k).s = s.procs.getD k aZ := rfl
 have hI : ∀ q, DJ p q = Ae (l5 p) p.regs.length q := fun _ => rfl
 unfold eh mj vu wS
 rw [e1, e2, e3]
 unfold w8 DL Jk
 simp only [hI]
 have hkc : r.rule.kind = 0 ∨ r.rule.kind = 1 ∨ r.rule.kind = 2 ∨ r.rule.kind = 3 := by omega
 rcases hkc with h0 | h0 | h0 | h0
 ·simp [bZ, h0]
 ·have hnm : au r.name r.rule = r.name := if_pos h0
  rw [hnm]
  rcases i4 h r.name with ⟨j, hj, e, h1, h2, h3⟩ | ⟨_, h1, h3⟩
  ·rw [h1, h2, h3]
   by_cases hw : (p.regs.getD j aO).w = r.w
   ·simp only [bZ, d4, h0, Int.toNat_natCast, hw]
    simp
   ·have hw' : ¬(p.regs[j]?.getD aO).w = r.w := by simpa [List.getD_eq_getElem?_getD] using hw
    simp [bZ, d4, h0, hw']
  ·rw [h1, h3]; simp [bZ, d4, h0]
 ·have hnm : au r.name r.rule = r.rule.src := if_neg (by omega)
  rw [hnm]
  rcases i4 h r.rule.src with ⟨j, hj, e, h1, h2, h3⟩ | ⟨_, h1, h3⟩
  ·rw [h1, h2, h3]; simp [bZ, d4, h0]
  ·rw [h1, h3]; simp [bZ, d4, h0]
 ·have hnm : au r.name r.rule = r.rule.src := if_neg (by omega)
  rw [hnm]
  rcases i4 h r.rule.src with ⟨j, hj, e, h1, h2, h3⟩ | ⟨_, h1, h3⟩
  ·rw [h1, h2, h3]; simp [bZ, oc, d4, h0, jY]
  ·rw [h1, h3]; simp [bZ, oc, d4, h0, jY]
theorem DT (m : Mm) (hk : 0 ≤ m.rule.kind ∧ m.rule.kind ≤ 3) (k : Nat) : b7 ba m k = rV m Jj k := by
 have h0 : dV ba m = false := by
  unfold dV
  have : aW ba.mems (au m.name m.rule) = false := rfl
  rw [this, if_neg (by simp)]
 have h1 : Iw m Jj = -1 := by unfold Iw; rw [if_neg (by simp), if_neg (by simp)]
 rw [fg h0]
 unfold bZ rV DM oc d4
 rw [h1]
 by_cases h3 : m.rule.kind = 3
 ·rw [if_neg (by show ¬m.rule.kind = 0; omega), if_pos h3, if_pos h3, jY]; rfl
 ·rw [if_neg h3, if_neg h3]; simp
theorem FV {o : Ci} {s : Ns} {k : Nat} (h : gx (sY (o.procs.getD k af)) (o.procs.getD k af).mems.length) (m : Mm) (hk : 0 ≤ m.rule.kind ∧ m.rule.kind ≤ 3) (z : Nat) :
  b7 (dZ o s k) m z = rV m ⟨true, o.procs.getD k af, s.procs.getD k aZ⟩ z := by
 generalize hp : o.procs.getD k af = p at h ⊢
 have e1 : (dZ o s k).mems = bW [] (sY p) p.mems.length := by unfold dZ; rw [hp]
 have e2 : (dZ o s k).p = p := by unfold dZ; rw [hp]
 have e3 : (dZ o s k).s = s.procs.getD k aZ := rfl
 have hI : ∀ q, BC p q = Ae (sY p) p.mems.length q := fun _ => rfl
 unfold b7 tX dV
 rw [e1, e2, e3]
 unfold rV DM Iw
 simp only [hI]
 have hkc : m.rule.kind = 0 ∨ m.rule.kind = 1 ∨ m.rule.kind = 2 ∨ m.rule.kind = 3 := by omega
 rcases hkc with h0 | h0 | h0 | h0
 ·simp [bZ, h0]
 ·have hnm : au m.name m.rule = m.name := if_pos h0
  rw [hnm]
  rcases i4 h m.name with ⟨j, hj, e, h1, h2, h3⟩ | ⟨_, h1, h3⟩
  ·rw [h1, h2, h3]
   by_cases hw : (p.mems[j]?.getD aB).w = m.w
   ·by_cases hv : (p.mems[j]?.getD aB).words = m.words
    ·by_cases hl : z < ((s.procs.getD k aZ).mems[j]?.getD []).length
     ·simp [bZ, d4, h0, hw, hv, hl] <;> simp_all
     ·simp [bZ, d4, h0, hw, hv, hl] <;> simp_all
    ·simp [bZ, d4, h0, hw, hv]
   ·simp [bZ, d4, h0, hw]
  ·rw [h1, h3]; simp [bZ, d4, h0]
 ·have hnm : au m.name m.rule = m.rule.src := if_neg (by omega)
  rw [hnm]
  rcases i4 h m.rule.src with ⟨j, hj, e, h1, h2, h3⟩ | ⟨_, h1, h3⟩
  ·rw [h1, h2, h3]
   by_cases hl : z < ((s.procs.getD k aZ).mems[j]?.getD []).length
   ·simp [bZ, d4, h0, hl] <;> simp_all
   ·simp [bZ, d4, h0, hl] <;> simp_all
  ·rw [h1, h3]; simp [bZ, d4, h0]
 ·have hnm : au m.name m.rule = m.rule.src := if_neg (by omega)
  rw [hnm]
  rcases i4 h m.rule.src with ⟨j, hj, e, h1, h2, h3⟩ | ⟨_, h1, h3⟩
  ·rw [h1, h2, h3]
   by_cases hl : z < ((s.procs.getD k aZ).mems[j]?.getD []).length
   ·simp [bZ, oc, d4, h0, hl, jY] <;> simp_all
   ·simp [bZ, oc, d4, h0, hl, jY] <;> simp_all
  ·rw [h1, h3]
   have := jY (a := 0) (b := m.rule.n) (w := m.w)
   rw [Int.zero_add, Int.zero_add] at this
   simp [bZ, oc, d4, h0, this]
def DU (p : Pr) : Prop := (∀ j, j < p.regs.length → 0 ≤ (p.regs.getD j aO).rule.kind ∧ (p.regs.getD j aO).rule.kind ≤ 3) ∧ ∀ j, j < p.mems.length → 0 ≤ (p.mems.getD j aB).rule.kind ∧ (p.mems.getD j aB).rule.kind ≤ 3
theorem DV {o n : Ci} {s : Ns} (ho : d5 o) {i : Nat} (hr : DU (n.procs.getD i af)) : cO o n s i = DN o n s i := by
 unfold cO DN DA t8 gj Jl
 rw [show FT o (kg n i) = Ae (kg o) o.procs.length (kg n i) from rfl]
 rcases i4 ho.pn (kg n i) with ⟨j, hj, e, _, _, h3⟩ | ⟨h1, _, h3⟩
 ·rw [h3, if_pos (by omega), ← e, DQ _ hj ho.pn, Int.toNat_natCast]
  rw [gD (fun q hq => DS (ho.rn j hj) _ (hr.1 q hq)), gD (fun q hq => show fp _ _ = tab (rV _ _) _ from gD (f := b7 _ _) (fun z _ => FV (ho.mn j hj) _ (hr.2 q hq) z))]
 ·rw [h3, if_neg (by omega), DR _ h1]
  rw [gD (fun q hq => FU _ (hr.1 q hq)), gD (fun q hq => show fp _ _ = tab (rV _ _) _ from gD (f := b7 _ _) (fun z _ => DT _ (hr.2 q hq) z))]
theorem Ah {o n : Ci} {s : Ns} (ho : d5 o) (hn : d5 n) (i : Nat) : bP o n s i = Ag o n s i := by
 unfold bP Ag DB eK t9 jL
 rw [oq hn.cn]
 rw [show oo o (a6 n i) = Ae (a6 o) o.chans.length (a6 n i) from rfl]
 rcases i4 ho.cn (a6 n i) with ⟨j, hj, e, h1, h2, h3⟩ | ⟨h1, h2, h3⟩
 ·rw [h1, h2, h3, Int.toNat_natCast, e]
  cases B1 (GS o n o.chans.length) (a6 n i)
  ·rw [if_pos (by simp), if_pos ⟨by omega, rfl⟩]
  ·rw [if_neg (by simp), if_neg (by simp)]
 ·rw [h2, h3, if_neg (by simp), if_neg (by simp)]
theorem vE {l : List ByteArray} {k : ByteArray} : B1 l k = true ↔ k ∈ l := by
 unfold B1
 rw [List.any_eq_true]
 exact ⟨fun ⟨x, hx, e⟩ => of_decide_eq_true e ▸ hx, fun h => ⟨k, h, decide_eq_true rfl⟩⟩
theorem vG {o n : Ci} {k : ByteArray} : ∀ m, k ∈ GS o n m ↔ ∃ j, j < m ∧ BB o n j = true ∧ a6 o j = k
 | 0 => by simp [GS]
 | m + 1 => by
  rw [GS, List.mem_append, vG m]
  constructor
  ·rintro (⟨j, hj, a, b⟩ | h)
   ·exact ⟨j, by omega, a, b⟩
   ·by_cases hp : BB o n m = true
    ·rw [if_pos hp] at h; exact ⟨m, by omega, hp, (List.mem_singleton.1 h).symm⟩
    ·rw [if_neg hp] at h; cases h
  ·rintro ⟨j, hj, a, b⟩
   by_cases hm : j = m
   ·subst hm; rw [if_pos a]; exact .inr (List.mem_singleton.2 b.symm)
   ·exact .inl ⟨j, by omega, a, b⟩
theorem DW {o n : Ci} {s : Ns} (ho : d5 o) (hn : d5 n) : (List.range (eK o n).length).any (fK o n s) = !cF (fun i => !mr o n s i) o.chans.length := by
 rw [Bool.eq_iff_iff, gy, List.any_eq_true]
 constructor
 ·rintro ⟨k, hk, h⟩
  have hk := List.mem_range.1 hk
  have hm : (eK o n).getD k .empty ∈ eK o n := by rw [ct _ _ hk]; exact List.getElem_mem hk
  unfold eK at hm
  rw [oq hn.cn] at hm
  obtain ⟨j, hj, hp, e⟩ := (vG _).1 hm
  refine ⟨j, hj, ?_⟩
  unfold mr
  rw [Bool.and_eq_true]
  refine ⟨vE.2 ((vG _).2 ⟨j, hj, hp, rfl⟩), ?_⟩
  unfold fK eK at h
  rw [oq hn.cn, ← e, show ah 0 (jL o) (a6 o j) = (j : Int) from vq _ hj ho.cn] at h
  exact h
 ·rintro ⟨j, hj, h⟩
  unfold mr at h
  rw [Bool.and_eq_true] at h
  have hm := vE.1 h.1
  obtain ⟨k, hk, e⟩ := List.getElem_of_mem hm
  have hg : eK o n = t9 o n := oq hn.cn _ _
  refine ⟨k, List.mem_range.2 (by rw [hg]; exact hk), ?_⟩
  unfold fK
  rw [hg, ct _ _ hk, e, show ah 0 (jL o) (a6 o j) = (j : Int) from vq _ hj ho.cn]
  exact h.2
end Go.Proofs.Ytnlmlkbaflmgcaa
