/-
  The reference of package migrate, plain data: carried values; it agrees with the package where names differ.
-/
import Derived.Test.YtnlmlkbaflmgcaaQMjA
namespace Go.Proofs.Ytnlmlkbaflmgcaa
open Go.RowKit
set_option linter.unusedVariables false
set_option linter.unusedSimpArgs false
def An (f : Nat → ByteArray) (n : Nat) (k : ByteArray) : Int := af (fun i => (f i).toList == k.toList) n
def fF (f : Nat → ByteArray) (n : Nat) : Prop := ∀ i, i < n → ∀ i', i' < i → f i' ≠ f i
theorem fF.inj {f : Nat → ByteArray} {n : Nat} (h : fF f n) {i j : Nat} (hi : i < n) (hj : j < n) (e : f i = f j) : i = j := by
 rcases Nat.lt_trichotomy i j with h1 | h1 | h1
 ·exact absurd e (h j hj i h1)
 ·exact h1
 ·exact absurd e.symm (h i hi j h1)
theorem H2 {f : Nat → ByteArray} {n j : Nat} (h : fF f n) (hj : j < n) : An f n (f j) = (j : Int) :=
 bq (by simp) (fun z hz => beq_eq_false_iff_ne.2 (fun e => h j hj z hz (toList_inj e))) hj
theorem H3 {f : Nat → ByteArray} {n : Nat} {k : ByteArray} (h : ∀ j, j < n → f j ≠ k) : An f n k = -1 :=
 bO (fun z hz => beq_eq_false_iff_ne.2 (fun e => h z hz (toList_inj e)))
theorem fT {f : Nat → ByteArray} {n : Nat} (h : fF f n) (k : ByteArray) :
  (∃ j, j < n ∧ f j = k ∧ aV (b4 [] f n) k = true ∧ ah 0 (b4 [] f n) k = (j : Int) ∧ An f n k = (j : Int)) ∨
  ((∀ j, j < n → f j ≠ k) ∧ aV (b4 [] f n) k = false ∧ An f n k = -1) := by
 by_cases hh : ∃ j, j < n ∧ f j = k
 ·obtain ⟨j, hj, e⟩ := hh
  subst e
  exact .inl ⟨j, hj, rfl, (yy n).2 ⟨j, hj, rfl⟩, vu n hj h, H2 h hj⟩
 ·have h1 : ∀ j, j < n → f j ≠ k := fun j hj e => hh ⟨j, hj, e⟩
  refine .inr ⟨h1, ?_, H3 h1⟩
  cases hm : aV (b4 [] f n) k
  ·rfl
  ·exact absurd ((yy n).1 hm) hh
structure pH (c : Ci) : Prop where
 cn : fF (bk c) c.chans.length
 pn : fF (eG c) c.procs.length
 rn : ∀ i, i < c.procs.length → fF (eo (c.procs.getD i ac)) (c.procs.getD i ac).regs.length
 mn : ∀ i, i < c.procs.length → fF (fb (c.procs.getD i ac)) (c.procs.getD i ac).mems.length
theorem DX {n : Ci} (h : fF (bk n) n.chans.length) (o : Ci) (i : Nat) : iu o n i = xN o n i := by
 unfold iu xN jv
 rw [show iA n (bk o i) = An (bk n) n.chans.length (bk o i) from rfl]
 rcases fT h (bk o i) with ⟨j, _, _, h1, h2, h3⟩ | ⟨_, h1, h3⟩
 ·rw [h1, h2, h3]
  rw [show decide ((j : Int) < 0) = false from decide_eq_false (by omega)]
  rfl
 ·rw [h1, h3]; rfl
theorem km {n : Ci} (h : fF (bk n) n.chans.length) (o : Ci) : ∀ k, a4 o n k = eY o n k
 | 0 => rfl
 | k + 1 => by rw [a4, eY, km h o k, DX h]
theorem Ao {c : Ci} {k : ByteArray} : ∀ (m : Nat), (∀ j, j < m → eG c j ≠ k) → fH c k m = ac
 | 0, _ => rfl
 | m + 1, h => by
  rw [fH, if_neg (fun e => h m (by omega) (toList_inj (beq_iff_eq.1 e))), Ao m (fun j hj => h j (by omega))]
theorem Ap {c : Ci} {j : Nat} : ∀ (m : Nat), j < m → fF (eG c) m → fH c (eG c j) m = c.procs.getD j ac
 | 0, h, _ => by omega
 | m + 1, h, hd => by
  rw [fH]
  by_cases hj : j = m
  ·subst hj; rw [if_pos (by simp)]
  ·rw [if_neg (fun e => hd m (by omega) j (by omega) (toList_inj (beq_iff_eq.1 e)).symm)]
   exact Ap m (by omega) (fun i hi => hd i (by omega))
theorem BH {r q : Rg} : d8 r q = true ↔ q.name = r.name ∧ q.w = r.w ∧ q.rule.kind = 1 := by
 unfold d8
 simp only [Bool.and_eq_true, decide_eq_true_eq, beq_iff_eq]
 exact ⟨fun h => ⟨toList_inj h.1, h.2⟩, fun h => ⟨by rw [h.1], h.2⟩⟩
theorem BI {r q : Mm} : dD r q = true ↔ q.name = r.name ∧ q.w = r.w ∧ q.words = r.words ∧ q.rule.kind = 1 := by
 unfold dD
 simp only [Bool.and_eq_true, decide_eq_true_eq, beq_iff_eq]
 exact ⟨fun h => ⟨toList_inj h.1, h.2⟩, fun h => ⟨by rw [h.1], h.2⟩⟩
theorem qJ {f : Nat → Bool} {n : Nat} : (!cJ (fun i => !f i) n) = true ↔ ∃ i, i < n ∧ f i = true := by
 rw [Bool.not_eq_true', ← Bool.not_eq_true, bh]
 constructor
 ·intro h
  refine Classical.byContradiction fun hn => h fun i hi => ?_
  cases hf : f i
  ·rfl
  ·exact absurd ⟨i, hi, hf⟩ hn
 ·intro ⟨i, hi, hf⟩ h
  have := h i hi
  rw [hf] at this; cases this
theorem H4 {q : Pr} (h : fF (eo q) q.regs.length) (p : Pr) (i : Nat) : DQ q.regs (p.regs.getD i aC) = Al p q i := by
 unfold Al
 rw [show iB q (eo p i) = An (eo q) q.regs.length (eo p i) from rfl]
 rw [Bool.eq_iff_iff]
 unfold DQ
 rw [qJ]
 simp only [BH, Bool.and_eq_true, decide_eq_true_eq]
 rcases fT h (eo p i) with ⟨j, hj, e, _, _, h3⟩ | ⟨h1, _, h3⟩
 ·rw [h3]
  constructor
  ·rintro ⟨z, hz, a, b, c⟩
   have : z = j := h.inj hz hj (show eo q z = eo q j from a.trans e.symm)
   subst this
   exact ⟨by omega, b, c⟩
  ·rintro ⟨_, b, c⟩
   exact ⟨j, hj, e, b, c⟩
 ·rw [h3]
  constructor
  ·rintro ⟨z, hz, a, _⟩
   exact absurd a (h1 z hz)
  ·rintro ⟨a, _⟩
   exact absurd (by omega) a
theorem H5 {q : Pr} (h : fF (fb q) q.mems.length) (p : Pr) (i : Nat) : DR q.mems (p.mems.getD i au) = xO p q i := by
 unfold xO
 rw [show fE q (fb p i) = An (fb q) q.mems.length (fb p i) from rfl]
 rw [Bool.eq_iff_iff]
 unfold DR
 rw [qJ]
 simp only [BI, Bool.and_eq_true, decide_eq_true_eq]
 rcases fT h (fb p i) with ⟨j, hj, e, _, _, h3⟩ | ⟨h1, _, h3⟩
 ·rw [h3]
  constructor
  ·rintro ⟨z, hz, a, b, c⟩
   have : z = j := h.inj hz hj (show fb q z = fb q j from a.trans e.symm)
   subst this
   exact ⟨by omega, b, c⟩
  ·rintro ⟨_, b, c⟩
   exact ⟨j, hj, e, b, c⟩
 ·rw [h3]
  constructor
  ·rintro ⟨z, hz, a, _⟩
   exact absurd a (h1 z hz)
  ·rintro ⟨a, _⟩
   exact absurd (by omega) a
theorem FY {q : Pr} (h : fF (eo q) q.regs.length) (h2 : fF (fb q) q.mems.length) (p : Pr) : fG p q = ug p q := by
 unfold fG ug
 rw [jW (fun i _ => H4 h p i), jW (fun i _ => H5 h2 p i)]
theorem BJ (p : Pr) : fG p ac = decide ¬((p.regs.length : Int) + (p.mems.length : Int) > 0) := by
 rw [Bool.eq_iff_iff, decide_eq_true_eq]
 constructor
 ·intro h
  unfold fG at h
  rw [Bool.and_eq_true, bh, bh] at h
  intro hn
  rcases Nat.eq_zero_or_pos p.regs.length with h0 | h0
  ·have := h.2 0 (by omega); cases this
  ·have := h.1 0 h0; cases this
 ·intro h
  exact lO (fun i hi => by omega) (fun i hi => by omega)
theorem FZ {o n : Ci} (hn : pH n) (i : Nat) : i5 o n i = mz o n i := by
 unfold i5 mz
 rw [show gS n (eG o i) = An (eG n) n.procs.length (eG o i) from rfl]
 rcases fT hn.pn (eG o i) with ⟨j, hj, e, _, _, h3⟩ | ⟨h1, _, h3⟩
 ·rw [h3, if_neg (by omega), ← e, Ap _ hj hn.pn, Int.toNat_natCast, FY (hn.rn j hj) (hn.mn j hj)]
 ·rw [h3, if_pos (by omega), Ao _ h1, BJ]
theorem F0 {o n : Ci} (hn : pH n) {i : Nat} (h : xN o n i = false) : kC o n i = r9 o n i := by
 unfold kC r9 r8 yJ jv
 rw [show iA n (bk o i) = An (bk n) n.chans.length (bk o i) from rfl]
 rcases fT hn.cn (bk o i) with ⟨j, _, _, h1, h2, h3⟩ | ⟨_, h1, h3⟩
 ·rw [h2, h3]
 ·rw [FW (show An (bk n) n.chans.length (bk o i) < 0 by omega)] at h; cases h
theorem xa {o n : Ci} (hn : pH n) : b8 o n = kk o n := by
 unfold b8 kk
 rw [km hn.cn, jW (fun i _ => FZ (o := o) hn i)]
 cases hm : eY o n o.chans.length with
 | nil => rw [jW (fun i hi => F0 (o := o) hn (vH hm i hi))]
 | cons a l => rfl
structure Sr where
 is : Bool
 p : Pr
 s : Ps
abbrev I1 : Sr := ⟨false, ac, aX⟩
def yK (r : Rg) (f : Sr) : Int :=
 if f.is = true ∧ 2 ≤ r.rule.kind then iB f.p r.rule.src
 else if f.is = true ∧ r.rule.kind = 1 then (if 0 ≤ iB f.p r.name ∧ ¬(f.p.regs.getD (iB f.p r.name).toNat aC).w = r.w then -1 else iB f.p r.name) else -1
def xb (r : Rg) (f : Sr) : Int := if 0 ≤ yK r f then dH (f.s.regs.getD (yK r f).toNat 0) r.w else r.init
def fU (r : Rg) (f : Sr) : Int := if r.rule.kind = 3 then dH (xb r f + dH r.rule.n r.w) r.w else xb r f
def uj (m : Mm) (f : Sr) : Int :=
 if f.is = true ∧ 2 ≤ m.rule.kind then fE f.p m.rule.src
 else if f.is = true ∧ m.rule.kind = 1 then (if 0 ≤ fE f.p m.name ∧ (¬(f.p.mems.getD (fE f.p m.name).toNat au).w = m.w ∨ ¬(f.p.mems.getD (fE f.p m.name).toNat au).words = m.words) then -1 else fE f.p m.name) else -1
def dT (m : Mm) (f : Sr) (k : Nat) : Int := if 0 ≤ uj m f ∧ k < (f.s.mems.getD (uj m f).toNat []).length then dH ((f.s.mems.getD (uj m f).toNat []).getD k 0) m.w else 0
def cL (m : Mm) (f : Sr) (k : Nat) : Int := if m.rule.kind = 3 then dH (dT m f k + dH m.rule.n m.w) m.w else dT m f k
def Cb (r : Rg) (f : Sr) : Int := if f.is = true ∧ r.rule.kind = 1 then (if 0 ≤ iB f.p r.name ∧ ¬(f.p.regs.getD (iB f.p r.name).toNat aC).w = r.w then -1 else iB f.p r.name) else -1
def Aq (m : Mm) (f : Sr) : Int := if f.is = true ∧ m.rule.kind = 1 then (if 0 ≤ fE f.p m.name ∧ (¬(f.p.mems.getD (fE f.p m.name).toNat au).w = m.w ∨ ¬(f.p.mems.getD (fE f.p m.name).toNat au).words = m.words) then -1 else fE f.p m.name) else -1
theorem DY {r : Rg} {f : Sr} (h : f.is = true) (h2 : r.rule.kind ≥ 2) : iB f.p r.rule.src = yK r f := by unfold yK; rw [if_pos ⟨h, h2⟩]
theorem DZ {r : Rg} {f : Sr} {x : Int} (h : ¬(f.is = true ∧ r.rule.kind ≥ 2)) (hx : x = Cb r f) : x = yK r f := by unfold yK; rw [if_neg h]; exact hx
theorem D0 {r : Mm} {f : Sr} (h : f.is = true) (h2 : r.rule.kind ≥ 2) : fE f.p r.rule.src = uj r f := by unfold uj; rw [if_pos ⟨h, h2⟩]
theorem D1 {r : Mm} {f : Sr} {x : Int} (h : ¬(f.is = true ∧ r.rule.kind ≥ 2)) (hx : x = Aq r f) : x = uj r f := by unfold uj; rw [if_neg h]; exact hx
theorem H6 (m : Rg) (f : Sr) : yK m f < f.p.regs.length := by
 have h1 : iB f.p m.rule.src < f.p.regs.length := bz
 have h2 : iB f.p m.name < f.p.regs.length := bz
 unfold yK
 split
 ·exact h1
 ·split
  ·split
   ·omega
   ·exact h2
  ·omega
theorem H7 (m : Mm) (f : Sr) : uj m f < f.p.mems.length := by
 have h1 : fE f.p m.rule.src < f.p.mems.length := bz
 have h2 : fE f.p m.name < f.p.mems.length := bz
 unfold uj
 split
 ·exact h1
 ·split
  ·split
   ·omega
   ·exact h2
  ·omega
theorem H8 {m : Mm} {f : Sr} {k : Nat} {ix : Int} (hi : ix = uj m f) (h : 0 ≤ ix) (h2 : (k : Int) < ((f.s.mems.getD ix.toNat []).length : Int)) : dH ((f.s.mems.getD ix.toNat []).getD k 0) m.w = dT m f k := by
 subst hi; unfold dT; rw [if_pos ⟨h, by omega⟩]
theorem D2 {m : Mm} {f : Sr} {k : Nat} {ix : Int} (hi : ix = uj m f) (h : ¬0 ≤ ix) : dT m f k = 0 := by
 subst hi; unfold dT; rw [if_neg (fun hh => h hh.1)]
theorem H9 {m : Mm} {f : Sr} {k : Nat} {ix : Int} (hi : ix = uj m f) (h : ¬(k : Int) < ((f.s.mems.getD ix.toNat []).length : Int)) : dT m f k = 0 := by
 subst hi; unfold dT; rw [if_neg (fun hh => h (by have := hh.2; omega))]
theorem D3 {m : Mm} {f : Sr} {k : Nat} (h : m.rule.kind = 3) : dH (IntKind.wrap .i64 (dT m f k + dH m.rule.n m.w)) m.w = cL m f k := by
 unfold cL; rw [if_pos h, jw]
theorem F1 {m : Mm} {f : Sr} {k : Nat} {wd : List Int} (hl : wd.length = m.words.toNat) (hk : k < m.words.toNat) (h : m.rule.kind = 3) : dH (IntKind.wrap .i64 ((wd.set k (dT m f k)).getD k 0 + dH m.rule.n m.w)) m.w = cL m f k := by
 rw [← D3 h, bS _ _ (by rw [List.length_set]; omega), List.getElem_set_self]
theorem Ar {m : Mm} {f : Sr} {k : Nat} {wd : List Int} (hwd : wd = jj (cL m f) (List.replicate m.words.toNat (0 : Int)) k) (hk : k < m.words.toNat) (h : m.rule.kind = 3) (h0 : dT m f k = 0) : dH (IntKind.wrap .i64 (wd.getD k 0 + dH m.rule.n m.w)) m.w = cL m f k := by
 rw [← D3 h, h0, hwd, wV, if_neg (Nat.lt_irrefl _), bS _ _ (by rw [List.length_replicate]; exact hk), List.getElem_replicate]
theorem yL {m : Mm} {f : Sr} {k : Nat} (h : ¬m.rule.kind = 3) : dT m f k = cL m f k := by
 unfold cL; rw [if_neg h]
theorem kq {a b w : Int} : dH (a + dH b w) w = dH (a + b) w := by
 unfold dH
 by_cases h : 0 ≤ w ∧ w ≤ 62
 ·rw [if_pos h, if_pos h, if_pos h]; exact Int.add_emod_emod _ _ _
 ·rw [if_neg h, if_neg h]
def d9 (p : Pr) (f : Sr) : Ps := ⟨tab (fun i => fU (p.regs.getD i aC) f) p.regs.length, tab (fun i => tab (cL (p.mems.getD i au) f) (p.mems.getD i au).words.toNat) p.mems.length⟩
def BK (o n : Ci) (s : Ns) (i : Nat) : Sr := if 0 ≤ gS o (eG n i) then ⟨true, o.procs.getD (gS o (eG n i)).toNat ac, s.procs.getD (gS o (eG n i)).toNat aX⟩ else I1
def ew (o n : Ci) (s : Ns) (i : Nat) : Ps := d9 (n.procs.getD i ac) (BK o n s i)
def qb (o n : Ci) : List ByteArray := eY o n o.chans.length
def kD (o n : Ci) (s : Ns) (i : Nat) : Bool := p7 (qb o n) (bk o i) && decide (0 < (s.chans.getD i []).length)
def bV (o n : Ci) (s : Ns) (i : Nat) : List Int := if 0 ≤ iA o (bk n i) ∧ p7 (qb o n) (bk o (iA o (bk n i)).toNat) = false then s.chans.getD (iA o (bk n i)).toNat [] else []
def bI (o n : Ci) (s : Ns) (i : Nat) : Bool := decide (0 < (n.chans.getD i ax).cap) && decide ((n.chans.getD i ax).cap < ((bV o n s i).length : Int))
def bR (o n : Ci) (s : Ns) : Ns × Int := if !(cJ (fun i => !kD o n s i) o.chans.length && cJ (fun i => !bI o n s i) n.chans.length) then (⟨[], []⟩, 150) else (⟨tab (ew o n s) n.procs.length, tab (bV o n s) n.chans.length⟩, 0)
theorem BL {o n : Ci} {s : Ns} {k : Nat} (hk : k < o.chans.length) (h : kD o n s k = true) : bR o n s = (⟨[], []⟩, 150) := by
 unfold bR; rw [dC hk (by rw [h]; rfl)]; rfl
theorem pI {o n : Ci} {s : Ns} {k : Nat} (hk : k < n.chans.length) (h : bI o n s k = true) : bR o n s = (⟨[], []⟩, 150) := by
 unfold bR; rw [dC (f := fun i => !bI o n s i) hk (by rw [h]; rfl), Bool.and_false]; rfl
theorem F2 {o n : Ci} {s : Ns} (h1 : ∀ k, k < o.chans.length → kD o n s k = false) (h2 : ∀ k, k < n.chans.length → bI o n s k = false) : bR o n s = (⟨tab (ew o n s) n.procs.length, tab (bV o n s) n.chans.length⟩, 0) := by
 unfold bR; rw [bh.2 (fun i hi => by rw [h1 i hi]; rfl), bh.2 (fun i hi => by rw [h2 i hi]; rfl)]; rfl
structure F3 (p : Pr) (f : Sr) : Prop where
 rl : p.regs.length ≤ 1000000
 ml : p.mems.length ≤ 1000000
 rw : ∀ j, j < p.regs.length → 0 ≤ (p.regs.getD j aC).w ∧ (p.regs.getD j aC).w ≤ 62
 mw : ∀ j, j < p.mems.length → (0 ≤ (p.mems.getD j au).w ∧ (p.mems.getD j au).w ≤ 62) ∧ 0 ≤ (p.mems.getD j au).words ∧ (p.mems.getD j au).words ≤ 1000000
 fl : f.p.regs.length ≤ 1000000
 fm : f.p.mems.length ≤ 1000000
 sr : f.s.regs.length = f.p.regs.length
 sm : f.s.mems.length = f.p.mems.length
 sz : ∀ i, (f.s.mems.getD i []).length ≤ 1000000
structure vI (o n : Ci) (s : Ns) : Prop extends oB o n s where
 rw : ∀ i, i < n.procs.length → ∀ j, j < (n.procs.getD i ac).regs.length → 0 ≤ ((n.procs.getD i ac).regs.getD j aC).w ∧ ((n.procs.getD i ac).regs.getD j aC).w ≤ 62
 mw : ∀ i, i < n.procs.length → ∀ j, j < (n.procs.getD i ac).mems.length → 0 ≤ ((n.procs.getD i ac).mems.getD j au).w ∧ ((n.procs.getD i ac).mems.getD j au).w ≤ 62
 sz : ∀ i j, ((s.procs.getD i aX).mems.getD j []).length ≤ 1000000
theorem Ia {o n : Ci} {s : Ns} {i : Nat} (h : 0 ≤ gS o (eG n i)) : BK o n s i = ⟨true, o.procs.getD (gS o (eG n i)).toNat ac, s.procs.getD (gS o (eG n i)).toNat aX⟩ := if_pos h
theorem Ib {o n : Ci} {s : Ns} {i : Nat} (h : ¬0 ≤ gS o (eG n i)) : BK o n s i = I1 := if_neg h
theorem G7 {o n : Ci} {s : Ns} (h : vI o n s) {i : Nat} (hi : i < n.procs.length) : F3 (n.procs.getD i ac) (BK o n s i) := by
 have hb := h.mk' i hi
 have hx : gS o (eG n i) < o.procs.length := bz
 unfold BK
 split
 ·rename_i h0
  have hj : (gS o (eG n i)).toNat < o.procs.length := by omega
  exact ⟨(h.nr i hi).1, (h.nr i hi).2, h.rw i hi, fun j hj => ⟨h.mw i hi j hj, (hb j hj).2⟩, (h.orr _ hj).1, (h.orr _ hj).2, h.sr _ hj, h.sm _ hj, fun z => h.sz _ z⟩
 ·exact ⟨(h.nr i hi).1, (h.nr i hi).2, h.rw i hi, fun j hj => ⟨h.mw i hi j hj, (hb j hj).2⟩, by simp, by simp, rfl, rfl, fun z => by simp⟩
theorem JN {o n : Ci} {s : Ns} {i : Nat} (h : 0 ≤ iA o (bk n i)) (h2 : p7 (qb o n) (bk o (iA o (bk n i)).toNat) = false) : bV o n s i = s.chans.getD (iA o (bk n i)).toNat [] := if_pos ⟨h, h2⟩
theorem Ic {o n : Ci} {s : Ns} {i : Nat} (h : ¬0 ≤ iA o (bk n i)) : bV o n s i = [] := if_neg (fun hh => h hh.1)
theorem Ie {o n : Ci} {s : Ns} {i : Nat} (h2 : p7 (qb o n) (bk o (iA o (bk n i)).toNat) = true) : bV o n s i = [] := if_neg (fun hh => by rw [h2] at hh; cases hh.2)
theorem D4 {o : Ci} {s : Ns} {j : Nat} : ∀ (m : Nat), j < m → fF (eG o) m → ah ba (bc o s m) (eG o j) = er o s j
 | 0, h, _ => by omega
 | m + 1, h, hd => by
  rw [bc, eJ]
  by_cases hj : j = m
  ·subst hj; rw [if_pos rfl]
  ·rw [if_neg (hd m (by omega) j (by omega))]
   exact D4 m (by omega) (fun i hi => hd i (by omega))
theorem D5 {o : Ci} {s : Ns} {k : ByteArray} : ∀ (m : Nat), (∀ j, j < m → eG o j ≠ k) → ah ba (bc o s m) k = ba
 | 0, _ => rfl
 | m + 1, h => by
  rw [bc, eJ, if_neg (fun e => h m (by omega) e.symm)]
  exact D5 m (fun j hj => h j (by omega))
theorem F4 (r : Rg) (hk : 0 ≤ r.rule.kind ∧ r.rule.kind ≤ 3) : eD ba r = fU r I1 := by
 have h0 : mO ba r = false := by
  unfold mO
  have : vy ba r = false := rfl
  rw [this, if_neg (by simp)]
 have h1 : yK r I1 = -1 := by unfold yK; rw [if_neg (by simp), if_neg (by simp)]
 unfold eD b6 fU xb ow eu
 rw [h0, h1]
 by_cases h3 : r.rule.kind = 3
 ·rw [if_neg (by show ¬r.rule.kind = 0; omega), if_pos h3, if_pos h3, kq]; rfl
 ·rw [if_neg h3, if_neg h3]; simp
theorem D6 {o : Ci} {s : Ns} {k : Nat} (h : fF (eo (o.procs.getD k ac)) (o.procs.getD k ac).regs.length) (r : Rg) (hk : 0 ≤ r.rule.kind ∧ r.rule.kind ≤ 3) :
  eD (er o s k) r = fU r ⟨true, o.procs.getD k ac, s.procs.getD k aX⟩ := by
 generalize hp : o.procs.getD k ac = p at h ⊢
 have e1 : (er o s k).regs = b4 [] (eo p) p.regs.length := by unfold er; rw [hp]
 have e2 : (er o s k).p = p := by unfold er; rw [hp]
 have e3 : (er o s k).s = s.procs.getD k aX := rfl
 have hI : ∀ q, iB p q = An (eo p) p.regs.length q := fun _ => rfl
 unfold eD mO vy wU
 rw [e1, e2, e3]
 unfold fU xb yK
 simp only [hI]
 have hkc : r.rule.kind = 0 ∨ r.rule.kind = 1 ∨ r.rule.kind = 2 ∨ r.rule.kind = 3 := by omega
 rcases hkc with h0 | h0 | h0 | h0
 ·simp [b6, h0]
 ·have hnm : ay r.name r.rule = r.name := if_pos h0
  rw [hnm]
  rcases fT h r.name with ⟨j, hj, e, h1, h2, h3⟩ | ⟨_, h1, h3⟩
  ·rw [h1, h2, h3]
   by_cases hw : (p.regs.getD j aC).w = r.w
   ·simp only [b6, eu, h0, Int.toNat_natCast, hw]
    simp
   ·have hw' : ¬(p.regs[j]?.getD aC).w = r.w := by simpa [List.getD_eq_getElem?_getD] using hw
    simp [b6, eu, h0, hw']
  ·rw [h1, h3]; simp [b6, eu, h0]
 ·have hnm : ay r.name r.rule = r.rule.src := if_neg (by omega)
  rw [hnm]
  rcases fT h r.rule.src with ⟨j, hj, e, h1, h2, h3⟩ | ⟨_, h1, h3⟩
  ·rw [h1, h2, h3]; simp [b6, eu, h0]
  ·rw [h1, h3]; simp [b6, eu, h0]
 ·have hnm : ay r.name r.rule = r.rule.src := if_neg (by omega)
  rw [hnm]
  rcases fT h r.rule.src with ⟨j, hj, e, h1, h2, h3⟩ | ⟨_, h1, h3⟩
  ·rw [h1, h2, h3]; simp [b6, ow, eu, h0, kq]
  ·rw [h1, h3]; simp [b6, ow, eu, h0, kq]
theorem D7 (m : Mm) (hk : 0 ≤ m.rule.kind ∧ m.rule.kind ≤ 3) (k : Nat) : cf ba m k = cL m I1 k := by
 have h0 : d6 ba m = false := by
  unfold d6
  have : aV ba.mems (ay m.name m.rule) = false := rfl
  rw [this, if_neg (by simp)]
 have h1 : uj m I1 = -1 := by unfold uj; rw [if_neg (by simp), if_neg (by simp)]
 rw [fw h0]
 unfold b6 cL dT ow eu
 rw [h1]
 by_cases h3 : m.rule.kind = 3
 ·rw [if_neg (by show ¬m.rule.kind = 0; omega), if_pos h3, if_pos h3, kq]; rfl
 ·rw [if_neg h3, if_neg h3]; simp
theorem F5 {o : Ci} {s : Ns} {k : Nat} (h : fF (fb (o.procs.getD k ac)) (o.procs.getD k ac).mems.length) (m : Mm) (hk : 0 ≤ m.rule.kind ∧ m.rule.kind ≤ 3) (z : Nat) :
  cf (er o s k) m z = cL m ⟨true, o.procs.getD k ac, s.procs.getD k aX⟩ z := by
 generalize hp : o.procs.getD k ac = p at h ⊢
 have e1 : (er o s k).mems = b4 [] (fb p) p.mems.length := by unfold er; rw [hp]
 have e2 : (er o s k).p = p := by unfold er; rw [hp]
 have e3 : (er o s k).s = s.procs.getD k aX := rfl
 have hI : ∀ q, fE p q = An (fb p) p.mems.length q := fun _ => rfl
 unfold cf t4 d6
 rw [e1, e2, e3]
 unfold cL dT uj
 simp only [hI]
 have hkc : m.rule.kind = 0 ∨ m.rule.kind = 1 ∨ m.rule.kind = 2 ∨ m.rule.kind = 3 := by omega
 rcases hkc with h0 | h0 | h0 | h0
 ·simp [b6, h0]
 ·have hnm : ay m.name m.rule = m.name := if_pos h0
  rw [hnm]
  rcases fT h m.name with ⟨j, hj, e, h1, h2, h3⟩ | ⟨_, h1, h3⟩
  ·rw [h1, h2, h3]
   by_cases hw : (p.mems[j]?.getD au).w = m.w
   ·by_cases hv : (p.mems[j]?.getD au).words = m.words
    ·by_cases hl : z < ((s.procs.getD k aX).mems[j]?.getD []).length
     ·simp [b6, eu, h0, hw, hv, hl] <;> simp_all
     ·simp [b6, eu, h0, hw, hv, hl] <;> simp_all
    ·simp [b6, eu, h0, hw, hv]
   ·simp [b6, eu, h0, hw]
  ·rw [h1, h3]; simp [b6, eu, h0]
 ·have hnm : ay m.name m.rule = m.rule.src := if_neg (by omega)
  rw [hnm]
  rcases fT h m.rule.src with ⟨j, hj, e, h1, h2, h3⟩ | ⟨_, h1, h3⟩
  ·rw [h1, h2, h3]
   by_cases hl : z < ((s.procs.getD k aX).mems[j]?.getD []).length
   ·simp [b6, eu, h0, hl] <;> simp_all
   ·simp [b6, eu, h0, hl] <;> simp_all
  ·rw [h1, h3]; simp [b6, eu, h0]
 ·have hnm : ay m.name m.rule = m.rule.src := if_neg (by omega)
  rw [hnm]
  rcases fT h m.rule.src with ⟨j, hj, e, h1, h2, h3⟩ | ⟨_, h1, h3⟩
  ·rw [h1, h2, h3]
   by_cases hl : z < ((s.procs.getD k aX).mems[j]?.getD []).length
   ·simp [b6, ow, eu, h0, hl, kq] <;> simp_all
   ·simp [b6, ow, eu, h0, hl, kq] <;> simp_all
  ·rw [h1, h3]
   have := kq (a := 0) (b := m.rule.n) (w := m.w)
   rw [Int.zero_add, Int.zero_add] at this
   simp [b6, ow, eu, h0, this]
def BM (p : Pr) : Prop := (∀ j, j < p.regs.length → 0 ≤ (p.regs.getD j aC).rule.kind ∧ (p.regs.getD j aC).rule.kind ≤ 3) ∧ ∀ j, j < p.mems.length → 0 ≤ (p.mems.getD j au).rule.kind ∧ (p.mems.getD j au).rule.kind ≤ 3
theorem D8 {o n : Ci} {s : Ns} (ho : pH o) {i : Nat} (hr : BM (n.procs.getD i ac)) : d7 o n s i = ew o n s i := by
 unfold d7 ew DJ d9 gH BK
 rw [show gS o (eG n i) = An (eG o) o.procs.length (eG n i) from rfl]
 rcases fT ho.pn (eG n i) with ⟨j, hj, e, _, _, h3⟩ | ⟨h1, _, h3⟩
 ·rw [h3, if_pos (by omega), ← e, D4 _ hj ho.pn, Int.toNat_natCast]
  rw [eW (fun q hq => D6 (ho.rn j hj) _ (hr.1 q hq)), eW (fun q hq => show fD _ _ = tab (cL _ _) _ from eW (f := cf _ _) (fun z _ => F5 (ho.mn j hj) _ (hr.2 q hq) z))]
 ·rw [h3, if_neg (by omega), D5 _ h1]
  rw [eW (fun q hq => F4 _ (hr.1 q hq)), eW (fun q hq => show fD _ _ = tab (cL _ _) _ from eW (f := cf _ _) (fun z _ => D7 _ (hr.2 q hq) z))]
theorem Au {o n : Ci} {s : Ns} (ho : pH o) (hn : pH n) (i : Nat) : cT o n s i = bV o n s i := by
 unfold cT bV DK eX qb jv
 rw [km hn.cn]
 rw [show iA o (bk n i) = An (bk o) o.chans.length (bk n i) from rfl]
 rcases fT ho.cn (bk n i) with ⟨j, hj, e, h1, h2, h3⟩ | ⟨h1, h2, h3⟩
 ·rw [h1, h2, h3, Int.toNat_natCast, e]
  cases p7 (eY o n o.chans.length) (bk n i)
  ·rw [if_pos (by simp), if_pos ⟨by omega, rfl⟩]
  ·rw [if_neg (by simp), if_neg (by simp)]
 ·rw [h2, h3, if_neg (by simp), if_neg (by simp)]
theorem Av {l : List ByteArray} {k : ByteArray} : p7 l k = true ↔ k ∈ l := by
 unfold p7
 rw [List.any_eq_true]
 exact ⟨fun ⟨x, hx, e⟩ => of_decide_eq_true e ▸ hx, fun h => ⟨k, h, decide_eq_true rfl⟩⟩
theorem yM {o n : Ci} {k : ByteArray} : ∀ m, k ∈ eY o n m ↔ ∃ j, j < m ∧ xN o n j = true ∧ bk o j = k
 | 0 => by simp [eY]
 | m + 1 => by
  rw [eY, List.mem_append, yM m]
  constructor
  ·rintro (⟨j, hj, a, b⟩ | h)
   ·exact ⟨j, by omega, a, b⟩
   ·by_cases hp : xN o n m = true
    ·rw [if_pos hp] at h; exact ⟨m, by omega, hp, (List.mem_singleton.1 h).symm⟩
    ·rw [if_neg hp] at h; cases h
  ·rintro ⟨j, hj, a, b⟩
   by_cases hm : j = m
   ·subst hm; rw [if_pos a]; exact .inr (List.mem_singleton.2 b.symm)
   ·exact .inl ⟨j, by omega, a, b⟩
theorem D9 {o n : Ci} {s : Ns} (ho : pH o) (hn : pH n) : (List.range (eX o n).length).any (ga o n s) = !cJ (fun i => !kD o n s i) o.chans.length := by
 rw [Bool.eq_iff_iff, qJ, List.any_eq_true]
 constructor
 ·rintro ⟨k, hk, h⟩
  have hk := List.mem_range.1 hk
  have hm : (eX o n).getD k .empty ∈ eX o n := by rw [bS _ _ hk]; exact List.getElem_mem hk
  unfold eX at hm
  rw [km hn.cn] at hm
  obtain ⟨j, hj, hp, e⟩ := (yM _).1 hm
  refine ⟨j, hj, ?_⟩
  unfold kD
  rw [Bool.and_eq_true]
  refine ⟨Av.2 ((yM _).2 ⟨j, hj, hp, rfl⟩), ?_⟩
  unfold ga eX at h
  rw [km hn.cn, ← e, show ah 0 (jv o) (bk o j) = (j : Int) from vu _ hj ho.cn] at h
  exact h
 ·rintro ⟨j, hj, h⟩
  unfold kD at h
  rw [Bool.and_eq_true] at h
  have hm := Av.1 h.1
  obtain ⟨k, hk, e⟩ := List.getElem_of_mem hm
  have hg : eX o n = qb o n := km hn.cn _ _
  refine ⟨k, List.mem_range.2 (by rw [hg]; exact hk), ?_⟩
  unfold ga
  rw [hg, bS _ _ hk, e, show ah 0 (jv o) (bk o j) = (j : Int) from vu _ hj ho.cn]
  exact h.2
theorem F6 {o n : Ci} {s : Ns} (ho : pH o) (hn : pH n) (hr : ∀ i, i < n.procs.length → BM (n.procs.getD i ac)) : aq o n s = bR o n s := by
 have hcap : ∀ i, b7 o n s i = bI o n s i := fun i => by unfold b7 bI; rw [Au ho hn]
 have h2 : (List.range n.chans.length).any (b7 o n s) = !cJ (fun i => !bI o n s i) n.chans.length := by
  rw [Bool.eq_iff_iff, qJ, List.any_eq_true]
  exact ⟨fun ⟨k, hk, h⟩ => ⟨k, List.mem_range.1 hk, by rw [← hcap]; exact h⟩, fun ⟨k, hk, h⟩ => ⟨k, List.mem_range.2 hk, by rw [hcap]; exact h⟩⟩
 unfold aq bR
 rw [D9 ho hn, h2, eW (fun i hi => D8 ho (hr i hi)), eW (fun i _ => Au ho hn i), Bool.not_and]
end Go.Proofs.Ytnlmlkbaflmgcaa
