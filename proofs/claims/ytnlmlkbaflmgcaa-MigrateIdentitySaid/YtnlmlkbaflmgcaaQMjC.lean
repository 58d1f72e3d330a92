/-
  The reference of package migrate, plain data: carried values; it agrees with the package where names differ.
-/
import Derived.Test.YtnlmlkbaflmgcaaQMjA
namespace Go.Proofs.Ytnlmlkbaflmgcaa
open Go.RowKit
set_option linter.unusedVariables false
set_option linter.unusedSimpArgs false
def th (f : Nat → ByteArray) (n : Nat) (k : ByteArray) : Int := cu (fun i => (f i).toList == k.toList) n
def eW (f : Nat → ByteArray) (n : Nat) : Prop := ∀ i, i < n → ∀ i', i' < i → f i' ≠ f i
theorem eW.inj {f : Nat → ByteArray} {n : Nat} (h : eW f n) {i j : Nat} (hi : i < n) (hj : j < n) (e : f i = f j) : i = j := by
 rcases Nat.lt_trichotomy i j with h1 | h1 | h1
 ·exact absurd e (h j hj i h1)
 ·exact h1
 ·exact absurd e.symm (h i hi j h1)
theorem i8 {f : Nat → ByteArray} {n j : Nat} (h : eW f n) (hj : j < n) : th f n (f j) = (j : Int) :=
 dD (by simp) (fun z hz => beq_eq_false_iff_ne.2 (fun e => h j hj z hz (toList_inj e))) hj
theorem D7 {f : Nat → ByteArray} {n : Nat} {k : ByteArray} (h : ∀ j, j < n → f j ≠ k) : th f n k = -1 :=
 fI (fun z hz => beq_eq_false_iff_ne.2 (fun e => h z hz (toList_inj e)))
theorem F4 (f : Nat → ByteArray) (n : Nat) (k : ByteArray) : (∃ j, j < n ∧ f j = k) ∨ ∀ j, j < n → f j ≠ k := by
 by_cases hh : ∃ j, j < n ∧ f j = k
 ·exact .inl hh
 ·exact .inr fun j hj e => hh ⟨j, hj, e⟩
theorem dG {f : Nat → ByteArray} {n : Nat} (h : eW f n) (k : ByteArray) :
  (∃ j, j < n ∧ f j = k ∧ aY (b3 [] f n) k = true ∧ ah 0 (b3 [] f n) k = (j : Int) ∧ th f n k = (j : Int)) ∨
  ((∀ j, j < n → f j ≠ k) ∧ aY (b3 [] f n) k = false ∧ th f n k = -1) := by
 by_cases hh : ∃ j, j < n ∧ f j = k
 ·obtain ⟨j, hj, e⟩ := hh
  subst e
  exact .inl ⟨j, hj, rfl, (yL n).2 ⟨j, hj, rfl⟩, vH n hj h, i8 h hj⟩
 ·have h1 : ∀ j, j < n → f j ≠ k := fun j hj e => hh ⟨j, hj, e⟩
  refine .inr ⟨h1, ?_, D7 h1⟩
  cases hm : aY (b3 [] f n) k
  ·rfl
  ·exact absurd ((yL n).1 hm) hh
structure d7 (c : Ci) : Prop where
 cn : eW (be c) c.chans.length
 pn : eW (fu c) c.procs.length
 rn : ∀ i, i < c.procs.length → eW (dc (c.procs.getD i ac)) (c.procs.getD i ac).regs.length
 mn : ∀ i, i < c.procs.length → eW (d4 (c.procs.getD i ac)) (c.procs.getD i ac).mems.length
theorem D8 {n : Ci} (h : eW (be n) n.chans.length) (o : Ci) (i : Nat) : ij o n i = sY o n i := by
 unfold ij sY jj
 rw [show ky n (be o i) = th (be n) n.chans.length (be o i) from rfl]
 rcases dG h (be o i) with ⟨j, _, _, h1, h2, h3⟩ | ⟨_, h1, h3⟩
 ·rw [h1, h2, h3]
  rw [show decide ((j : Int) < 0) = false from decide_eq_false (by omega)]
  rfl
 ·rw [h1, h3]; rfl
theorem jY {n : Ci} (h : eW (be n) n.chans.length) (o : Ci) : ∀ k, a7 o n k = yX o n k
 | 0 => rfl
 | k + 1 => by rw [a7, yX, jY h o k, D8 h]
theorem AE {c : Ci} {k : ByteArray} : ∀ (m : Nat), (∀ j, j < m → fu c j ≠ k) → fw c k m = ac
 | 0, _ => rfl
 | m + 1, h => by
  rw [fw, if_neg (fun e => h m (by omega) (toList_inj (beq_iff_eq.1 e))), AE m (fun j hj => h j (by omega))]
theorem AF {c : Ci} {j : Nat} : ∀ (m : Nat), j < m → eW (fu c) m → fw c (fu c j) m = c.procs.getD j ac
 | 0, h, _ => by omega
 | m + 1, h, hd => by
  rw [fw]
  by_cases hj : j = m
  ·subst hj; rw [if_pos (by simp)]
  ·rw [if_neg (fun e => hd m (by omega) j (by omega) (toList_inj (beq_iff_eq.1 e)).symm)]
   exact AF m (by omega) (fun i hi => hd i (by omega))
theorem BW {r q : Rg} : dX r q = true ↔ q.name = r.name ∧ q.w = r.w ∧ q.rule.kind = 1 := by
 unfold dX
 simp only [Bool.and_eq_true, decide_eq_true_eq, beq_iff_eq]
 exact ⟨fun h => ⟨toList_inj h.1, h.2⟩, fun h => ⟨by rw [h.1], h.2⟩⟩
theorem BX {r q : Mm} : dr r q = true ↔ q.name = r.name ∧ q.w = r.w ∧ q.words = r.words ∧ q.rule.kind = 1 := by
 unfold dr
 simp only [Bool.and_eq_true, decide_eq_true_eq, beq_iff_eq]
 exact ⟨fun h => ⟨toList_inj h.1, h.2⟩, fun h => ⟨by rw [h.1], h.2⟩⟩
theorem oz {f : Nat → Bool} {n : Nat} : (!b4 (fun i => !f i) n) = true ↔ ∃ i, i < n ∧ f i = true := by
 rw [Bool.not_eq_true', ← Bool.not_eq_true, aR]
 constructor
 ·intro h
  refine Classical.byContradiction fun hn => h fun i hi => ?_
  cases hf : f i
  ·rfl
  ·exact absurd ⟨i, hi, hf⟩ hn
 ·intro ⟨i, hi, hf⟩ h
  have := h i hi
  rw [hf] at this; cases this
theorem H5 {q : Pr} (h : eW (dc q) q.regs.length) (p : Pr) (i : Nat) : D1 q.regs (p.regs.getD i aK) = H3 p q i := by
 unfold H3
 rw [show mq q (dc p i) = th (dc q) q.regs.length (dc p i) from rfl]
 rw [Bool.eq_iff_iff]
 unfold D1
 rw [oz]
 simp only [BW, Bool.and_eq_true, decide_eq_true_eq]
 rcases dG h (dc p i) with ⟨j, hj, e, _, _, h3⟩ | ⟨h1, _, h3⟩
 ·rw [h3]
  constructor
  ·rintro ⟨z, hz, a, b, c⟩
   have : z = j := h.inj hz hj (show dc q z = dc q j from a.trans e.symm)
   subst this
   exact ⟨by omega, b, c⟩
  ·rintro ⟨_, b, c⟩
   exact ⟨j, hj, e, b, c⟩
 ·rw [h3]
  constructor
  ·rintro ⟨z, hz, a, _⟩
   exact absurd a (h1 z hz)
  ·rintro ⟨a, _⟩
   exact absurd (by omega) a
theorem H6 {q : Pr} (h : eW (d4 q) q.mems.length) (p : Pr) (i : Nat) : D2 q.mems (p.mems.getD i ax) = H4 p q i := by
 unfold H4
 rw [show jX q (d4 p i) = th (d4 q) q.mems.length (d4 p i) from rfl]
 rw [Bool.eq_iff_iff]
 unfold D2
 rw [oz]
 simp only [BX, Bool.and_eq_true, decide_eq_true_eq]
 rcases dG h (d4 p i) with ⟨j, hj, e, _, _, h3⟩ | ⟨h1, _, h3⟩
 ·rw [h3]
  constructor
  ·rintro ⟨z, hz, a, b, c⟩
   have : z = j := h.inj hz hj (show d4 q z = d4 q j from a.trans e.symm)
   subst this
   exact ⟨by omega, b, c⟩
  ·rintro ⟨_, b, c⟩
   exact ⟨j, hj, e, b, c⟩
 ·rw [h3]
  constructor
  ·rintro ⟨z, hz, a, _⟩
   exact absurd a (h1 z hz)
  ·rintro ⟨a, _⟩
   exact absurd (by omega) a
theorem F5 {q : Pr} (h : eW (dc q) q.regs.length) (h2 : eW (d4 q) q.mems.length) (p : Pr) : fv p q = IW p q := by
 unfold fv IW
 rw [jK (fun i _ => H5 h p i), jK (fun i _ => H6 h2 p i)]
theorem BZ (p : Pr) : fv p ac = decide ¬((p.regs.length : Int) + (p.mems.length : Int) > 0) := by
 rw [Bool.eq_iff_iff, decide_eq_true_eq]
 constructor
 ·intro h
  unfold fv at h
  rw [Bool.and_eq_true, aR, aR] at h
  intro hn
  rcases Nat.eq_zero_or_pos p.regs.length with h0 | h0
  ·have := h.2 0 (by omega); cases this
  ·have := h.1 0 h0; cases this
 ·intro h
  exact lJ (fun i hi => by omega) (fun i hi => by omega)
theorem F6 {o n : Ci} (hn : d7 n) (i : Nat) : iR o n i = yZ o n i := by
 unfold iR yZ
 rw [show pM n (fu o i) = th (fu n) n.procs.length (fu o i) from rfl]
 rcases dG hn.pn (fu o i) with ⟨j, hj, e, _, _, h3⟩ | ⟨h1, _, h3⟩
 ·rw [h3, if_neg (by omega), ← e, AF _ hj hn.pn, Int.toNat_natCast, F5 (hn.rn j hj) (hn.mn j hj)]
 ·rw [h3, if_pos (by omega), AE _ h1, BZ]
theorem F7 {o n : Ci} (hn : d7 n) {i : Nat} (h : sY o n i = false) : kv o n i = yY o n i := by
 unfold kv yY sk D5 jj
 rw [show ky n (be o i) = th (be n) n.chans.length (be o i) from rfl]
 rcases dG hn.cn (be o i) with ⟨j, _, _, h1, h2, h3⟩ | ⟨_, h1, h3⟩
 ·rw [h2, h3]
 ·rw [JD (show th (be n) n.chans.length (be o i) < 0 by omega)] at h; cases h
theorem xj {o n : Ci} (hn : d7 n) : bQ o n = D6 o n := by
 unfold bQ D6
 rw [jY hn.cn, jK (fun i _ => F6 (o := o) hn i)]
 cases hm : yX o n o.chans.length with
 | nil => rw [jK (fun i hi => F7 (o := o) hn (vQ hm i hi))]
 | cons a l => rfl
structure Sr where
 is : Bool
 p : Pr
 s : Ps
abbrev JG : Sr := ⟨false, ac, aW⟩
def H7 (r : Rg) (f : Sr) : Int :=
 if f.is = true ∧ 2 ≤ r.rule.kind then mq f.p r.rule.src
 else if f.is = true ∧ r.rule.kind = 1 then (if 0 ≤ mq f.p r.name ∧ ¬(f.p.regs.getD (mq f.p r.name).toNat aK).w = r.w then -1 else mq f.p r.name) else -1
def B1 (r : Rg) (f : Sr) : Int := if 0 ≤ H7 r f then kx (f.s.regs.getD (H7 r f).toNat 0) r.w else r.init
def pN (r : Rg) (f : Sr) : Int := if r.rule.kind = 3 then kx (B1 r f + kx r.rule.n r.w) r.w else B1 r f
def Hg (m : Mm) (f : Sr) : Int :=
 if f.is = true ∧ 2 ≤ m.rule.kind then jX f.p m.rule.src
 else if f.is = true ∧ m.rule.kind = 1 then (if 0 ≤ jX f.p m.name ∧ (¬(f.p.mems.getD (jX f.p m.name).toNat ax).w = m.w ∨ ¬(f.p.mems.getD (jX f.p m.name).toNat ax).words = m.words) then -1 else jX f.p m.name) else -1
def B2 (m : Mm) (f : Sr) (k : Nat) : Int := if 0 ≤ Hg m f ∧ k < (f.s.mems.getD (Hg m f).toNat []).length then kx ((f.s.mems.getD (Hg m f).toNat []).getD k 0) m.w else 0
def mr (m : Mm) (f : Sr) (k : Nat) : Int := if m.rule.kind = 3 then kx (B2 m f k + kx m.rule.n m.w) m.w else B2 m f k
theorem jZ {a b w : Int} : kx (a + kx b w) w = kx (a + b) w := by
 unfold kx
 by_cases h : 0 ≤ w ∧ w ≤ 62
 ·rw [if_pos h, if_pos h, if_pos h]; exact Int.add_emod_emod _ _ _
 ·rw [if_neg h, if_neg h]
def gu (p : Pr) (f : Sr) : Ps := ⟨tab (fun i => pN (p.regs.getD i aK) f) p.regs.length, tab (fun i => tab (mr (p.mems.getD i ax) f) (p.mems.getD i ax).words.toNat) p.mems.length⟩
def F8 (o n : Ci) (s : Ns) (i : Nat) : Sr := if 0 ≤ pM o (fu n i) then ⟨true, o.procs.getD (pM o (fu n i)).toNat ac, s.procs.getD (pM o (fu n i)).toNat aW⟩ else JG
def j4 (o n : Ci) (s : Ns) (i : Nat) : Ps := gu (n.procs.getD i ac) (F8 o n s i)
def uz (o n : Ci) : List ByteArray := yX o n o.chans.length
def jq (o n : Ci) (s : Ns) (i : Nat) : Bool := Cq (uz o n) (be o i) && decide (0 < (s.chans.getD i []).length)
def kT (o n : Ci) (s : Ns) (i : Nat) : List Int := if 0 ≤ ky o (be n i) ∧ Cq (uz o n) (be o (ky o (be n i)).toNat) = false then s.chans.getD (ky o (be n i)).toNat [] else []
def iT (o n : Ci) (s : Ns) (i : Nat) : Bool := decide (0 < (n.chans.getD i aB).cap) && decide ((n.chans.getD i aB).cap < ((kT o n s i).length : Int))
def AH (o n : Ci) (s : Ns) : Ns × Int := if !(b4 (fun i => !jq o n s i) o.chans.length && b4 (fun i => !iT o n s i) n.chans.length) then (⟨[], []⟩, 150) else (⟨tab (j4 o n s) n.procs.length, tab (kT o n s) n.chans.length⟩, 0)
theorem AI {o n : Ci} {s : Ns} (h1 : ∀ k, k < o.chans.length → jq o n s k = false) (h2 : ∀ k, k < n.chans.length → iT o n s k = false) : AH o n s = (⟨tab (j4 o n s) n.procs.length, tab (kT o n s) n.chans.length⟩, 0) := by
 unfold AH; rw [aR.2 (fun i hi => by rw [h1 i hi]; rfl), aR.2 (fun i hi => by rw [h2 i hi]; rfl)]; rfl
structure D9 (o n : Ci) (s : Ns) : Prop extends ku o n s where
 rw : ∀ i, i < n.procs.length → ∀ j, j < (n.procs.getD i ac).regs.length → 0 ≤ ((n.procs.getD i ac).regs.getD j aK).w ∧ ((n.procs.getD i ac).regs.getD j aK).w ≤ 62
 mw : ∀ i, i < n.procs.length → ∀ j, j < (n.procs.getD i ac).mems.length → 0 ≤ ((n.procs.getD i ac).mems.getD j ax).w ∧ ((n.procs.getD i ac).mems.getD j ax).w ≤ 62
 sz : ∀ i j, ((s.procs.getD i aW).mems.getD j []).length ≤ 1000000
theorem y7 {o n : Ci} {s : Ns} {i : Nat} (h : 0 ≤ pM o (fu n i)) : F8 o n s i = ⟨true, o.procs.getD (pM o (fu n i)).toNat ac, s.procs.getD (pM o (fu n i)).toNat aW⟩ := if_pos h
theorem Ea {o : Ci} {s : Ns} {j : Nat} : ∀ (m : Nat), j < m → eW (fu o) m → ah bf (bh o s m) (fu o j) = d5 o s j
 | 0, h, _ => by omega
 | m + 1, h, hd => by
  rw [bh, eD]
  by_cases hj : j = m
  ·subst hj; rw [if_pos rfl]
  ·rw [if_neg (hd m (by omega) j (by omega))]
   exact Ea m (by omega) (fun i hi => hd i (by omega))
theorem Eb {o : Ci} {s : Ns} {k : ByteArray} : ∀ (m : Nat), (∀ j, j < m → fu o j ≠ k) → ah bf (bh o s m) k = bf
 | 0, _ => rfl
 | m + 1, h => by
  rw [bh, eD, if_neg (fun e => h m (by omega) e.symm)]
  exact Eb m (fun j hj => h j (by omega))
theorem F9 (r : Rg) (hk : 0 ≤ r.rule.kind ∧ r.rule.kind ≤ 3) : eu bf r = pN r JG := by
 have h0 : mJ bf r = false := by
  unfold mJ
  have : vK bf r = false := rfl
  rw [this, if_neg (by simp)]
 have h1 : H7 r JG = -1 := by unfold H7; rw [if_neg (by simp), if_neg (by simp)]
 unfold eu b5 pN B1 ot d6
 rw [h0, h1]
 by_cases h3 : r.rule.kind = 3
 ·rw [if_neg (by show ¬r.rule.kind = 0; omega), if_pos h3, if_pos h3, jZ]; rfl
 ·rw [if_neg h3, if_neg h3]; simp
theorem Ec {o : Ci} {s : Ns} {k : Nat} (h : eW (dc (o.procs.getD k ac)) (o.procs.getD k ac).regs.length) (r : Rg) (hk : 0 ≤ r.rule.kind ∧ r.rule.kind ≤ 3) :
  eu (d5 o s k) r = pN r ⟨true, o.procs.getD k ac, s.procs.getD k aW⟩ := by
 generalize hp : o.procs.getD k ac = p at h ⊢
 have e1 : (d5 o s k).regs = b3 [] (dc p) p.regs.length := by unfold d5; rw [hp]
 have e2 : (d5 o s k).p = p := by unfold d5; rw [hp]
 have e3 : (d5 o s k).s = s.procs.getD k aW := rfl
 have hI : ∀ q, mq p q = th (dc p) p.regs.length q := fun _ => rfl
 unfold eu mJ vK w9
 rw [e1, e2, e3]
 unfold pN B1 H7
 simp only [hI]
 have hkc : r.rule.kind = 0 ∨ r.rule.kind = 1 ∨ r.rule.kind = 2 ∨ r.rule.kind = 3 := by omega
 rcases hkc with h0 | h0 | h0 | h0
 ·simp [b5, h0]
 ·have hnm : au r.name r.rule = r.name := if_pos h0
  rw [hnm]
  rcases dG h r.name with ⟨j, hj, e, h1, h2, h3⟩ | ⟨_, h1, h3⟩
  ·rw [h1, h2, h3]
   by_cases hw : (p.regs.getD j aK).w = r.w
   ·simp only [b5, d6, h0, Int.toNat_natCast, hw]
    simp
   ·have hw' : ¬(p.regs[j]?.getD aK).w = r.w := by simpa [List.getD_eq_getElem?_getD] using hw
    simp [b5, d6, h0, hw']
  ·rw [h1, h3]; simp [b5, d6, h0]
 ·have hnm : au r.name r.rule = r.rule.src := if_neg (by omega)
  rw [hnm]
  rcases dG h r.rule.src with ⟨j, hj, e, h1, h2, h3⟩ | ⟨_, h1, h3⟩
  ·rw [h1, h2, h3]; simp [b5, d6, h0]
  ·rw [h1, h3]; simp [b5, d6, h0]
 ·have hnm : au r.name r.rule = r.rule.src := if_neg (by omega)
  rw [hnm]
  rcases dG h r.rule.src with ⟨j, hj, e, h1, h2, h3⟩ | ⟨_, h1, h3⟩
  ·rw [h1, h2, h3]; simp [b5, ot, d6, h0, jZ]
  ·rw [h1, h3]; simp [b5, ot, d6, h0, jZ]
theorem Ed (m : Mm) (hk : 0 ≤ m.rule.kind ∧ m.rule.kind ≤ 3) (k : Nat) : ca bf m k = mr m JG k := by
 have h0 : dW bf m = false := by
  unfold dW
  have : aY bf.mems (au m.name m.rule) = false := rfl
  rw [this, if_neg (by simp)]
 have h1 : Hg m JG = -1 := by unfold Hg; rw [if_neg (by simp), if_neg (by simp)]
 rw [fl h0]
 unfold b5 mr B2 ot d6
 rw [h1]
 by_cases h3 : m.rule.kind = 3
 ·rw [if_neg (by show ¬m.rule.kind = 0; omega), if_pos h3, if_pos h3, jZ]; rfl
 ·rw [if_neg h3, if_neg h3]; simp
theorem Ga {o : Ci} {s : Ns} {k : Nat} (h : eW (d4 (o.procs.getD k ac)) (o.procs.getD k ac).mems.length) (m : Mm) (hk : 0 ≤ m.rule.kind ∧ m.rule.kind ≤ 3) (z : Nat) :
  ca (d5 o s k) m z = mr m ⟨true, o.procs.getD k ac, s.procs.getD k aW⟩ z := by
 generalize hp : o.procs.getD k ac = p at h ⊢
 have e1 : (d5 o s k).mems = b3 [] (d4 p) p.mems.length := by unfold d5; rw [hp]
 have e2 : (d5 o s k).p = p := by unfold d5; rw [hp]
 have e3 : (d5 o s k).s = s.procs.getD k aW := rfl
 have hI : ∀ q, jX p q = th (d4 p) p.mems.length q := fun _ => rfl
 unfold ca uj dW
 rw [e1, e2, e3]
 unfold mr B2 Hg
 simp only [hI]
 have hkc : m.rule.kind = 0 ∨ m.rule.kind = 1 ∨ m.rule.kind = 2 ∨ m.rule.kind = 3 := by omega
 rcases hkc with h0 | h0 | h0 | h0
 ·simp [b5, h0]
 ·have hnm : au m.name m.rule = m.name := if_pos h0
  rw [hnm]
  rcases dG h m.name with ⟨j, hj, e, h1, h2, h3⟩ | ⟨_, h1, h3⟩
  ·rw [h1, h2, h3]
   by_cases hw : (p.mems[j]?.getD ax).w = m.w
   ·by_cases hv : (p.mems[j]?.getD ax).words = m.words
    ·by_cases hl : z < ((s.procs.getD k aW).mems[j]?.getD []).length
     ·simp [b5, d6, h0, hw, hv, hl] <;> simp_all
     ·simp [b5, d6, h0, hw, hv, hl] <;> simp_all
    ·simp [b5, d6, h0, hw, hv]
   ·simp [b5, d6, h0, hw]
  ·rw [h1, h3]; simp [b5, d6, h0]
 ·have hnm : au m.name m.rule = m.rule.src := if_neg (by omega)
  rw [hnm]
  rcases dG h m.rule.src with ⟨j, hj, e, h1, h2, h3⟩ | ⟨_, h1, h3⟩
  ·rw [h1, h2, h3]
   by_cases hl : z < ((s.procs.getD k aW).mems[j]?.getD []).length
   ·simp [b5, d6, h0, hl] <;> simp_all
   ·simp [b5, d6, h0, hl] <;> simp_all
  ·rw [h1, h3]; simp [b5, d6, h0]
 ·have hnm : au m.name m.rule = m.rule.src := if_neg (by omega)
  rw [hnm]
  rcases dG h m.rule.src with ⟨j, hj, e, h1, h2, h3⟩ | ⟨_, h1, h3⟩
  ·rw [h1, h2, h3]
   by_cases hl : z < ((s.procs.getD k aW).mems[j]?.getD []).length
   ·simp [b5, ot, d6, h0, hl, jZ] <;> simp_all
   ·simp [b5, ot, d6, h0, hl, jZ] <;> simp_all
  ·rw [h1, h3]
   have := jZ (a := 0) (b := m.rule.n) (w := m.w)
   rw [Int.zero_add, Int.zero_add] at this
   simp [b5, ot, d6, h0, this]
def y8 (p : Pr) : Prop := (∀ j, j < p.regs.length → 0 ≤ (p.regs.getD j aK).rule.kind ∧ (p.regs.getD j aK).rule.kind ≤ 3) ∧ ∀ j, j < p.mems.length → 0 ≤ (p.mems.getD j ax).rule.kind ∧ (p.mems.getD j ax).rule.kind ≤ 3
theorem sn {o n : Ci} {s : Ns} (ho : d7 o) {i : Nat} (hr : y8 (n.procs.getD i ac)) : ew o n s i = j4 o n s i := by
 unfold ew j4 JB gu gt F8
 rw [show pM o (fu n i) = th (fu o) o.procs.length (fu n i) from rfl]
 rcases dG ho.pn (fu n i) with ⟨j, hj, e, _, _, h3⟩ | ⟨h1, _, h3⟩
 ·rw [h3, if_pos (by omega), ← e, Ea _ hj ho.pn, Int.toNat_natCast]
  rw [eM (fun q hq => Ec (ho.rn j hj) _ (hr.1 q hq)), eM (fun q hq => show fG _ _ = tab (mr _ _) _ from eM (f := ca _ _) (fun z _ => Ga (ho.mn j hj) _ (hr.2 q hq) z))]
 ·rw [h3, if_neg (by omega), Eb _ h1]
  rw [eM (fun q hq => F9 _ (hr.1 q hq)), eM (fun q hq => show fG _ _ = tab (mr _ _) _ from eM (f := ca _ _) (fun z _ => Ed _ (hr.2 q hq) z))]
theorem lO {o n : Ci} {s : Ns} (ho : d7 o) (hn : d7 n) (i : Nat) : bP o n s i = kT o n s i := by
 unfold bP kT DW eN uz jj
 rw [jY hn.cn]
 rw [show ky o (be n i) = th (be o) o.chans.length (be n i) from rfl]
 rcases dG ho.cn (be n i) with ⟨j, hj, e, h1, h2, h3⟩ | ⟨h1, h2, h3⟩
 ·rw [h1, h2, h3, Int.toNat_natCast, e]
  cases Cq (yX o n o.chans.length) (be n i)
  ·rw [if_pos (by simp), if_pos ⟨by omega, rfl⟩]
  ·rw [if_neg (by simp), if_neg (by simp)]
 ·rw [h2, h3, if_neg (by simp), if_neg (by simp)]
theorem vR {l : List ByteArray} {k : ByteArray} : Cq l k = true ↔ k ∈ l := by
 unfold Cq
 rw [List.any_eq_true]
 exact ⟨fun ⟨x, hx, e⟩ => of_decide_eq_true e ▸ hx, fun h => ⟨k, h, decide_eq_true rfl⟩⟩
theorem pO {o n : Ci} {k : ByteArray} : ∀ m, k ∈ yX o n m ↔ ∃ j, j < m ∧ sY o n j = true ∧ be o j = k
 | 0 => by simp [yX]
 | m + 1 => by
  rw [yX, List.mem_append, pO m]
  constructor
  ·rintro (⟨j, hj, a, b⟩ | h)
   ·exact ⟨j, by omega, a, b⟩
   ·by_cases hp : sY o n m = true
    ·rw [if_pos hp] at h; exact ⟨m, by omega, hp, (List.mem_singleton.1 h).symm⟩
    ·rw [if_neg hp] at h; cases h
  ·rintro ⟨j, hj, a, b⟩
   by_cases hm : j = m
   ·subst hm; rw [if_pos a]; exact .inr (List.mem_singleton.2 b.symm)
   ·exact .inl ⟨j, by omega, a, b⟩
theorem xk {o n : Ci} {s : Ns} (ho : d7 o) (hn : d7 n) : (List.range (eN o n).length).any (fS o n s) = !b4 (fun i => !jq o n s i) o.chans.length := by
 rw [Bool.eq_iff_iff, oz, List.any_eq_true]
 constructor
 ·rintro ⟨k, hk, h⟩
  have hk := List.mem_range.1 hk
  have hm : (eN o n).getD k .empty ∈ eN o n := by rw [bC _ _ hk]; exact List.getElem_mem hk
  unfold eN at hm
  rw [jY hn.cn] at hm
  obtain ⟨j, hj, hp, e⟩ := (pO _).1 hm
  refine ⟨j, hj, ?_⟩
  unfold jq
  rw [Bool.and_eq_true]
  refine ⟨vR.2 ((pO _).2 ⟨j, hj, hp, rfl⟩), ?_⟩
  unfold fS eN at h
  rw [jY hn.cn, ← e, show ah 0 (jj o) (be o j) = (j : Int) from vH _ hj ho.cn] at h
  exact h
 ·rintro ⟨j, hj, h⟩
  unfold jq at h
  rw [Bool.and_eq_true] at h
  have hm := vR.1 h.1
  obtain ⟨k, hk, e⟩ := List.getElem_of_mem hm
  have hg : eN o n = uz o n := jY hn.cn _ _
  refine ⟨k, List.mem_range.2 (by rw [hg]; exact hk), ?_⟩
  unfold fS
  rw [hg, bC _ _ hk, e, show ah 0 (jj o) (be o j) = (j : Int) from vH _ hj ho.cn]
  exact h.2
theorem AJ {o n : Ci} {s : Ns} (ho : d7 o) (hn : d7 n) (hr : ∀ i, i < n.procs.length → y8 (n.procs.getD i ac)) : af o n s = AH o n s := by
 have hcap : ∀ i, bz o n s i = iT o n s i := fun i => by unfold bz iT; rw [lO ho hn]
 have h2 : (List.range n.chans.length).any (bz o n s) = !b4 (fun i => !iT o n s i) n.chans.length := by
  rw [Bool.eq_iff_iff, oz, List.any_eq_true]
  exact ⟨fun ⟨k, hk, h⟩ => ⟨k, List.mem_range.1 hk, by rw [← hcap]; exact h⟩, fun ⟨k, hk, h⟩ => ⟨k, List.mem_range.2 hk, by rw [hcap]; exact h⟩⟩
 unfold af AH
 rw [xk ho hn, h2, eM (fun i hi => sn ho (hr i hi)), eM (fun i _ => lO ho hn i), Bool.not_and]
end Go.Proofs.Ytnlmlkbaflmgcaa
