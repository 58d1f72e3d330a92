/-
  The laws of processes, plain data: registers in the reverse order.
-/
import Derived.Test.YtgfbfajaaaegjaaQPcG
namespace Go.Proofs.Ytgfbfajaaaegjaa
open Go.RowKit
set_option linter.unusedVariables false
set_option linter.unusedSimpArgs false
def au (n : Int) : Ex → Ex
 | ⟨op, _, k, w, args⟩ => ⟨op, e0, if op = 16 then ⟨n - 1 - k.n, k.p⟩ else k, w, trnL args⟩
where trnL : List Ex → List Ex
 | [] => []
 | a :: r => au n a :: trnL r
theorem uK {n : Int} : ∀ (l : List Ex), au.trnL n l = l.map (au n)
 | [] => rfl
 | a :: r => by rw [au.trnL, uK r]; rfl
theorem cR (n : Int) (e : Ex) : au n e = ⟨e.op, e0, if e.op = 16 then ⟨n - 1 - e.k.n, e.k.p⟩ else e.k, e.w, e.args.map (au n)⟩ := by
 cases e with | mk op name k w args => rw [au, uK]
theorem Bz (n : Int) (e : Ex) : (au n e).op = e.op := by rw [cR]
theorem Cw (n : Int) (e : Ex) : (au n e).w = e.w := by rw [cR]
theorem iR (n : Int) (e : Ex) : (au n e).args = e.args.map (au n) := by rw [cR]
theorem uL (n : Int) {e : Ex} (h : ¬e.op = 16) : (au n e).k = e.k := by rw [cR]; exact if_neg h
theorem ns (n : Int) {e : Ex} (h : e.op = 16) : (au n e).k.n = n - 1 - e.k.n := by rw [cR]; show (if e.op = 16 then _ else _ : Nm).n = _; rw [if_pos h]
theorem oS (e : Ex) : da e = da.depL e.args + 1 := by cases e with | mk op name k w args => rw [da]
theorem ia {n : Int} : ∀ (m : Nat) (e : Ex), da e ≤ m → da (au n e) ≤ m
 | 0, e, h => by rw [oS] at h; omega
 | m + 1, e, h => by
  rw [oS] at h
  rw [oS, iR]
  have key : ∀ l : List Ex, da.depL l ≤ m → da.depL (l.map (au n)) ≤ m := by
   intro l
   induction l with
   | nil => intro h; exact h
   | cons a r ih =>
    intro h
    rw [da.depL] at h
    rw [List.map_cons, da.depL]
    have h1 := ia (n := n) m a (by omega)
    have h2 := ih (by omega)
    omega
  have := key e.args (by omega)
  omega
def cK (n j : Nat) : Nat := n - 1 - j
def tL (p : Pr) (j : Nat) : Rg := { pR p (cK p.regs.length j) with next := au p.regs.length (pR p (cK p.regs.length j)).next }
def rp (p : Pr) (i : Nat) : Mm := { ef p i with enable := au p.regs.length (ef p i).enable, addr := au p.regs.length (ef p i).addr, data := au p.regs.length (ef p i).data }
def uO (p : Pr) (i : Nat) : Tk := { ir p i with when := au p.regs.length (ir p i).when }
def zm (p : Pr) (i : Nat) : Pt := { oC p i with when := au p.regs.length (oC p i).when, data := au p.regs.length (oC p i).data }
def aO (p : Pr) : Pr := ⟨p.name, p.clock, tab (tL p) p.regs.length, tab (rp p) p.mems.length, tab (uO p) p.takes.length, tab (zm p) p.puts.length⟩
def fh (s : Ps) (j : Nat) : Int := s.regs.getD (cK s.regs.length j) 0
def bv (s : Ps) : Ps := ⟨tab (fh s) s.regs.length, s.mems⟩
def vS (c : Sc) : Sc := ⟨tab (fun j => c.rw.getD (cK c.rw.length j) 0) c.rw.length, c.mw, c.tw⟩
theorem vU {c : Sc} : ∀ (m : Nat) (e : Ex) (v : Int), da e ≤ m → cU c e = some v → cU (vS c) (au c.rw.length e) = some v
 | 0, e, v, h, _ => by rw [oS] at h; omega
 | m + 1, e, v, hd, h => by
  obtain ⟨ws, h1, h2⟩ := ec h
  have hargs : cU.tyL (vS c) (e.args.map (au c.rw.length)) = some ws := by
   have key : ∀ (l : List Ex) (ws : List Int), (∀ a ∈ l, da a ≤ m) → cU.tyL c l = some ws → cU.tyL (vS c) (l.map (au c.rw.length)) = some ws := by
    intro l
    induction l with
    | nil => intro ws _ h; exact h
    | cons a r ih =>
     intro ws ha h
     rw [cU.tyL] at h
     split at h
     ·rename_i w0 ws0 e1 e2
      cases h
      rw [List.map_cons, cU.tyL, vU m a w0 (ha a (by simp)) e1, ih ws0 (fun a h => ha a (by simp [h])) e2]
     ·cases h
   exact key e.args ws (fun a ha => by have := kC ha; omega) h1
  have he : au c.rw.length e = ⟨e.op, e0, if e.op = 16 then ⟨c.rw.length - 1 - e.k.n, e.k.p⟩ else e.k, e.w, e.args.map (au c.rw.length)⟩ := cR _ _
  rw [he, cU, hargs]
  simp only
  rcases h2 with ⟨a1, a2, a3, a4, a5⟩ | ⟨a1, a2, a3, a4, a5⟩ | ⟨a1, a2, a3, a4, a5⟩ | ⟨a1, a2, a3, a4, a5⟩
  ·have hl : (vS c).rw.length = c.rw.length := an _ _
   rw [if_pos a1, if_pos a1]
   simp only
   rw [if_pos ⟨a2, by omega, by rw [hl]; omega⟩]
   have : (vS c).rw.getD ((c.rw.length : Int) - 1 - e.k.n).toNat 0 = c.rw.getD e.k.n.toNat 0 := by
    show (tab _ _).getD _ 0 = _
    rw [aE (by omega)]
    show c.rw.getD (cK _ _) 0 = _
    congr 1
    unfold cK
    omega
   rw [this, a5]
  ·have hne : ¬e.op = 16 := by omega
   simp only [if_neg hne]
   rw [if_pos a1]
   refine (if_pos ⟨a2, a3, a4⟩).trans ?_
   rw [a5]; rfl
  ·have hne : ¬e.op = 16 := by omega
   have hn2 : ¬e.op = 18 := by omega
   simp only [if_neg hne, if_neg hn2]
   rw [if_pos a1]
   refine (if_pos ⟨a2, a3, a4⟩).trans ?_
   rw [a5]; rfl
  ·rw [if_neg a1, if_neg a3, if_neg a2, if_neg a1, if_pos a4, a5]
section
variable {p : Pr} {s : Ps} {d : List Int} {hs : List Hd} {rs : List Bool} {i : Nat}
theorem nu {n j : Nat} (h : j < n) : cK n (cK n j) = j ∧ cK n j < n := by unfold cK; omega
theorem oT {c : Sc} (ho : pD c p s d) (hr : s.regs.length = p.regs.length) : ∀ (m : Nat) (e : Ex) (v : Int), da e ≤ m → cU c e = some v → bk (aO p) (bv s) d (au p.regs.length e) = bk p s d e
 | 0, e, v, h, _ => by rw [oS] at h; omega
 | m + 1, e, v, hd, h => by
  have hm : (e.args.map (au p.regs.length)).map (bk (aO p) (bv s) d) = e.args.map (bk p s d) := by
   rw [List.map_map]
   refine List.map_congr_left (fun a ha => ?_)
   obtain ⟨w, hw⟩ := vC h ha
   exact oT ho hr m a w (by have := kC ha; omega) hw
  rw [je, je p, Bz, iR, Cw, hm]
  by_cases h16 : e.op = 16
  ·rw [if_pos h16, if_pos h16, ns _ h16]
   obtain ⟨k1, k2, k3⟩ := yM ho h h16
   have e1 : (bv s).regs.getD ((p.regs.length : Int) - 1 - e.k.n).toNat 0 = s.regs.getD e.k.n.toNat 0 := by
    show (tab (fh s) s.regs.length).getD _ 0 = _
    rw [aE (by omega)]
    unfold fh cK
    congr 1
    omega
   have e2 : (aO p).regs.getD ((p.regs.length : Int) - 1 - e.k.n).toNat aI = tL p ((p.regs.length : Int) - 1 - e.k.n).toNat := aE (by omega)
   rw [e1, e2]
   have e3 : cK p.regs.length ((p.regs.length : Int) - 1 - e.k.n).toNat = e.k.n.toNat := by unfold cK; omega
   show (_, (pR p (cK p.regs.length ((p.regs.length : Int) - 1 - e.k.n).toNat)).w) = _
   rw [e3]
  ·rw [if_neg h16, if_neg h16, uL _ h16]
   by_cases h18 : e.op = 18
   ·rw [if_pos h18, if_pos h18]
    obtain ⟨k1, k2, k3⟩ := wC ho h h18
    have e2 : (aO p).takes.getD e.k.n.toNat bp = uO p e.k.n.toNat := aE (by omega)
    rw [e2]; rfl
   ·rw [if_neg h18, if_neg h18]
    by_cases h17 : e.op = 17
    ·rw [if_pos h17, if_pos h17]
     obtain ⟨k1, k2, k3, _⟩ := wD ho h h17
     have e2 : (aO p).mems.getD e.k.n.toNat aj = rp p e.k.n.toNat := aE (by omega)
     rw [e2]; rfl
    ·rw [if_neg h17, if_neg h17]
theorem pW {c : Sc} (ho : pD c p s d) (hr : s.regs.length = p.regs.length) {e : Ex} {v : Int} (h : cU c e = some v) : co (aO p) (bv s) d (au p.regs.length e) = co p s d e := by
 unfold co; rw [oT ho hr _ e v (Nat.le_refl _) h]
theorem zn (p : Pr) : it (aO p) = vS (it p) ∧ z5 (aO p) = vS (z5 p) := by
 have h1 : (tab (tL p) p.regs.length).map (·.w) = tab (fun j => (p.regs.map (·.w)).getD (cK (p.regs.map (·.w)).length j) 0) (p.regs.map (·.w)).length := by
  rw [List.length_map]
  unfold tab
  rw [List.map_map]
  refine List.map_congr_left (fun j hj => ?_)
  rw [List.mem_range] at hj
  have := (nu hj).2
  show (pR p (cK p.regs.length j)).w = _
  rw [b9 (·.w) p.regs (cK p.regs.length j) aI 0 this]
 have h2 : (tab (rp p) p.mems.length).map (·.w) = p.mems.map (·.w) := by
  unfold tab
  rw [List.map_map]
  exact (mZ (d := aj) (·.w)).symm
 have h3 : (tab (uO p) p.takes.length).map (·.w) = p.takes.map (·.w) := by
  unfold tab
  rw [List.map_map]
  exact (mZ (d := bp) (·.w)).symm
 constructor
 ·show (⟨_, _, _⟩ : Sc) = ⟨_, _, _⟩
  rw [show (aO p).regs = tab (tL p) p.regs.length from rfl, show (aO p).mems = tab (rp p) p.mems.length from rfl, show (aO p).takes = tab (uO p) p.takes.length from rfl, h1, h2, h3]; rfl
 ·show (⟨_, _, _⟩ : Sc) = ⟨_, _, _⟩
  rw [show (aO p).regs = tab (tL p) p.regs.length from rfl, show (aO p).mems = tab (rp p) p.mems.length from rfl, h1, h2]; rfl
theorem jy (p : Pr) : (it p).rw.length = p.regs.length ∧ (z5 p).rw.length = p.regs.length := by constructor <;> simp [it, z5]
theorem lh {e : Ex} {v : Int} (h : cU (it p) e = some v) : cU (it (aO p)) (au p.regs.length e) = some v := by
 have := vU _ e v (Nat.le_refl _) h
 rw [(jy p).1] at this
 rw [(zn p).1]; exact this
theorem Ak {e : Ex} {v : Int} (h : cU (z5 p) e = some v) : cU (z5 (aO p)) (au p.regs.length e) = some v := by
 have := vU _ e v (Nat.le_refl _) h
 rw [(jy p).2] at this
 rw [(zn p).2]; exact this
theorem nw (hp : dh p) : dh (aO p) := by
 have l1 : (aO p).regs.length = p.regs.length := an _ _
 have l2 : (aO p).mems.length = p.mems.length := an _ _
 have l3 : (aO p).takes.length = p.takes.length := an _ _
 have l4 : (aO p).puts.length = p.puts.length := an _ _
 refine ⟨by rw [l1]; exact hp.rl, by rw [l2]; exact hp.ml, by rw [l3]; exact hp.tl, by rw [l4]; exact hp.pl, fun i hi => ?_, fun i hi => ?_, fun i hi => ?_, fun i hi => ?_⟩
 ·rw [l1] at hi
  have e : pR (aO p) i = tL p i := aE hi
  rw [e]
  obtain ⟨a1, a2, a3, a4⟩ := hp.rw _ (nu hi).2
  exact ⟨a1, a2, lh a3, ia _ _ a4⟩
 ·rw [l2] at hi
  have e : ef (aO p) i = rp p i := aE hi
  rw [e]
  obtain ⟨a1, a2, ⟨a3, a4⟩, ⟨⟨va, a5⟩, a6⟩, a7, a8⟩ := hp.mw i hi
  exact ⟨a1, a2, ⟨lh a3, ia _ _ a4⟩, ⟨⟨va, lh a5⟩, ia _ _ a6⟩, lh a7, ia _ _ a8⟩
 ·rw [l3] at hi
  have e : ir (aO p) i = uO p i := aE hi
  rw [e]
  obtain ⟨a1, a2, a3⟩ := hp.tw i hi
  exact ⟨a1, Ak a2, ia _ _ a3⟩
 ·rw [l4] at hi
  have e : oC (aO p) i = zm p i := aE hi
  rw [e]
  obtain ⟨a1, ⟨a2, a3⟩, a4, a5⟩ := hp.pw i hi
  exact ⟨a1, ⟨lh a2, ia _ _ a3⟩, lh a4, ia _ _ a5⟩
theorem w4 (hso : jh p s) : jh (aO p) (bv s) := by
 have l1 : (aO p).regs.length = p.regs.length := an _ _
 have l2 : (aO p).mems.length = p.mems.length := an _ _
 have l5 : (bv s).regs.length = s.regs.length := an _ _
 have h6 := hso.rl
 refine ⟨by rw [l1, l5]; exact h6, fun i hi => ?_, by rw [l2]; exact hso.ml, fun i hi => ?_, fun i hi j hj => ?_⟩
 ·rw [l1] at hi
  have e : pR (aO p) i = tL p i := aE hi
  rw [e]
  show dt ((tab (fh s) s.regs.length).getD i 0) _
  rw [aE (by omega)]
  unfold fh
  rw [h6]
  exact hso.rv _ (nu hi).2
 ·rw [l2] at hi
  have e : ef (aO p) i = rp p i := aE hi
  rw [e]; exact hso.mn i hi
 ·rw [l2] at hi
  have e : ef (aO p) i = rp p i := aE hi
  rw [e]; exact hso.mv i hi j hj
theorem w5 (hh : jX p hs) : jX (aO p) hs := by
 have l3 : (aO p).takes.length = p.takes.length := an _ _
 refine ⟨by rw [l3]; exact hh.l, fun i hi h => ?_⟩
 rw [l3] at hi
 have e : ir (aO p) i = uO p i := aE hi
 rw [e]; exact hh.v i hi h
theorem zo (s : Ps) : bv (bv s) = s := by
 have h : tab (fh (bv s)) (bv s).regs.length = s.regs := by
  have hl : (bv s).regs.length = s.regs.length := an _ _
  rw [hl]
  refine qN (d := 0) (an _ _) (fun i hi => ?_)
  rw [an] at hi
  rw [aE hi]
  unfold fh
  rw [hl]
  show (tab (fh s) s.regs.length).getD _ 0 = _
  rw [aE (nu hi).2]
  unfold fh
  rw [(nu hi).1]
 show (⟨tab (fh (bv s)) (bv s).regs.length, s.mems⟩ : Ps) = s
 rw [h]
theorem xO (p : Pr) : aR (aO p) = bv (aR p) := by
 have h1 : (aO p).regs.map (·.init) = tab (fh (aR p)) (aR p).regs.length := by
  have hl : (aR p).regs.length = p.regs.length := by simp [aR]
  rw [hl]
  show (tab (tL p) p.regs.length).map (·.init) = _
  unfold tab
  rw [List.map_map]
  refine List.map_congr_left (fun j hj => ?_)
  rw [List.mem_range] at hj
  unfold fh
  rw [hl]
  show (pR p (cK p.regs.length j)).init = (p.regs.map (·.init)).getD _ 0
  rw [b9 (·.init) p.regs _ aI 0 (nu hj).2]
 have h2 : (aO p).mems.map (fun m => List.replicate m.words.toNat (0 : Int)) = (aR p).mems := by
  show (tab (rp p) p.mems.length).map _ = p.mems.map _
  unfold tab
  rw [List.map_map]
  exact (mZ (d := aj) (fun m => List.replicate m.words.toNat (0 : Int))).symm
 show (⟨(aO p).regs.map (·.init), (aO p).mems.map (fun m => List.replicate m.words.toNat (0 : Int))⟩ : Ps) = ⟨_, _⟩
 rw [h1, h2]
theorem zp (hp : dh p) (hso : jh p s) (hh : jX p hs) : ae (aO p) (bv s) hs rs = { ae p s hs rs with s := bv (ae p s hs rs).s } := by
 have hr := hso.rl
 have l1 : (aO p).regs.length = p.regs.length := an _ _
 have l2 : (aO p).mems.length = p.mems.length := an _ _
 have l3 : (aO p).takes.length = p.takes.length := an _ _
 have l4 : (aO p).puts.length = p.puts.length := an _ _
 have hd0 : fW (aO p) = fW p := by unfold fW; rw [l3]
 have gt : ∀ i, i < p.takes.length → ir (aO p) i = uO p i := fun i hi => aE hi
 have gp : ∀ i, i < p.puts.length → oC (aO p) i = zm p i := fun i hi => aE hi
 have gm : ∀ i, i < p.mems.length → ef (aO p) i = rp p i := fun i hi => aE hi
 have gr : ∀ i, i < p.regs.length → pR (aO p) i = tL p i := fun i hi => aE hi
 have ho0 := dR hp hso (y7 hp)
 have ho := dR hp hso (l6 (s := s) (hs := hs) hp hh)
 have hcur : aW (aO p) (bv s) hs = aW p s hs := by
  unfold aW
  rw [l3]
  refine eS (fun i hi => ?_)
  unfold jg
  rw [hd0, gt i hi]
  have hq : co (aO p) (bv s) (fW p) (uO p i).when = co p s (fW p) (ir p i).when := pW ho0 hr (eT (s := s) hp hi (fW p) (fW p)).2
  rw [hq]
 have hdt : ∀ i, i < p.takes.length → co (aO p) (bv s) (aW p s hs) (ir (aO p) i).when = co p s (aW p s hs) (ir p i).when := fun i hi => by
  rw [gt i hi]; exact pW ho hr (eT (s := s) hp hi (fW p) (fW p)).2
 have hdp : ∀ i, i < p.puts.length → co (aO p) (bv s) (aW p s hs) (oC (aO p) i).when = co p s (aW p s hs) (oC p i).when := fun i hi => by
  rw [gp i hi]; exact pW ho hr (hp.pw i hi).2.1.1
 have hf : dQ (aO p) (bv s) hs rs = dQ p s hs rs := by
  unfold dQ
  rw [l3, l4]
  have e1 : bE (du (aO p) (bv s) hs) p.takes.length = bE (du p s hs) p.takes.length := jf (fun i hi => by unfold du; rw [hcur, hdt i hi])
  have e2 : bE (d5 (aO p) (bv s) hs rs) p.puts.length = bE (d5 p s hs rs) p.puts.length := jf (fun i hi => by unfold d5; rw [hcur, hdp i hi])
  rw [e1, e2]
 cases h : dQ p s hs rs
 ·rw [pT h, pT (by rw [hf]; exact h), l3, l4]
 ·rw [kG h, kG (by rw [hf]; exact h), hcur, l3, l4]
  have e1 : tab (lq (aO p) (bv s) hs) p.takes.length = tab (lq p s hs) p.takes.length := eS (fun i hi => by unfold lq; rw [hcur, hdt i hi])
  have e2 : tab (lr (aO p) (bv s) hs) p.puts.length = tab (lr p s hs) p.puts.length := eS (fun i hi => by
   unfold lr
   rw [hcur, hdp i hi, gp i hi]
   have hq : bk (aO p) (bv s) (aW p s hs) (zm p i).data = bk p s (aW p s hs) (oC p i).data := oT ho hr _ _ _ (Nat.le_refl _) (hp.pw i hi).2.2.1
   rw [hq])
  have e3 : cG (aO p) (bv s) (aW p s hs) = bv (cG p s (aW p s hs)) := by
   have r1 : tab (fun i => (bk (aO p) (bv s) (aW p s hs) (pR (aO p) i).next).1) (aO p).regs.length = tab (fh (cG p s (aW p s hs))) (cG p s (aW p s hs)).regs.length := by
    have hl : (cG p s (aW p s hs)).regs.length = p.regs.length := an _ _
    rw [hl, l1]
    refine eS (fun i hi => ?_)
    rw [gr i hi]
    unfold fh
    rw [hl]
    show (bk (aO p) (bv s) (aW p s hs) (au p.regs.length (pR p (cK p.regs.length i)).next)).1 = (tab _ p.regs.length).getD _ 0
    rw [aE (nu hi).2, oT ho hr _ _ _ (Nat.le_refl _) (hp.rw _ (nu hi).2).2.2.1]
   have r2 : tab (rB (aO p) (bv s) (aW p s hs)) (aO p).mems.length = (cG p s (aW p s hs)).mems := by
    rw [l2]
    refine eS (fun i hi => ?_)
    unfold rB
    rw [gm i hi]
    obtain ⟨a1, a2, ⟨a3, a4⟩, ⟨⟨va, a5⟩, a6⟩, a7, a8⟩ := hp.mw i hi
    have q1 : co (aO p) (bv s) (aW p s hs) (rp p i).enable = co p s (aW p s hs) (ef p i).enable := pW ho hr a3
    have q2 : bk (aO p) (bv s) (aW p s hs) (rp p i).addr = bk p s (aW p s hs) (ef p i).addr := oT ho hr _ _ _ (Nat.le_refl _) a5
    have q3 : bk (aO p) (bv s) (aW p s hs) (rp p i).data = bk p s (aW p s hs) (ef p i).data := oT ho hr _ _ _ (Nat.le_refl _) a7
    rw [q1, q2, q3]; rfl
   show (⟨_, _⟩ : Ps) = ⟨_, _⟩
   rw [r1, r2]
  rw [e1, e2, e3]
end
end Go.Proofs.Ytgfbfajaaaegjaa
