/-
  The laws of shadows, plain data: a circuit whose last process inverts what it puts.
-/
import Derived.Test.YtgmpoenfoacofaaGreatQNfF
namespace Go.Proofs.YtgmpoenfoacofaaGreat
open Go.RowKit
set_option linter.unusedVariables false
set_option linter.unusedSimpArgs false
def x6 (e : Ex) : Ex := ⟨2, e0, dN, dN, [e]⟩
def sf (t : Pt) : Pt := { t with data := x6 t.data }
def da (p : Pr) : Pr := { p with puts := [sf (fa p 0)] }
def aA (c : Ci) (z : Nat) : Ci := ⟨c.procs.set z (da (ba c z)), c.chans⟩
def hE (l : List Int) : List Int := l.map (fun v => 3 - v)
def cL (s : Ns) (n : Nat) : Ns := ⟨s.procs, s.chans.set n (hE (fk s n))⟩
theorem zp {p p' : Pr} (h1 : p'.regs = p.regs) (h2 : p'.mems = p.mems) (h3 : p'.takes = p.takes) {s : Ps} {data : List Int} : ∀ (n : Nat) (e : Ex), df e ≤ n → bj p' s data e = bj p s data e
 | 0, e, h => by cases e with | mk op name k w args => rw [df] at h; omega
 | n + 1, e, h => by
  have hm : e.args.map (bj p' s data) = e.args.map (bj p s data) := List.map_congr_left (fun a ha => zp h1 h2 h3 n a (by have := mY ha; omega))
  rw [gZ, gZ p, hm, h1, h2, h3]
theorem sg (p : Pr) (s : Ps) (data : List Int) (e : Ex) : bj (da p) s data e = bj p s data e := zp (p := p) (p' := da p) rfl rfl rfl _ e (Nat.le_refl _)
theorem kY (p : Pr) (s : Ps) (data : List Int) (e : Ex) : ik (da p) s data e = ik p s data e := by unfold ik; rw [sg]
theorem nz (p : Pr) (s : Ps) (hs : List Hd) : fB (da p) s hs = fB p s hs := by
 unfold fB
 refine d6 (fun i _ => ?_)
 unfold m3
 rw [kY]; rfl
theorem Gi {p : Pr} {s : Ps} {data : List Int} {e : Ex} (h2 : (bj p s data e).2 = 2) (hv : cJ (bj p s data e).1 2) : (bj p s data (x6 e)).1 = 3 - (bj p s data e).1 := by
 rw [gZ]
 show (if (2 : Int) = 16 then _ else if (2 : Int) = 18 then _ else if (2 : Int) = 17 then _ else _ : Int × Int).1 = _
 rw [if_neg (by decide), if_neg (by decide), if_neg (by decide)]
 show cH 2 [(bj p s data e).2] [(bj p s data e).1] [0, 0] = _
 rw [h2]
 obtain ⟨v0, v1⟩ := hv
 have v1 : (bj p s data e).1 ≤ 3 := v1
 generalize (bj p s data e).1 = v at *
 have : v = 0 ∨ v = 1 ∨ v = 2 ∨ v = 3 := by omega
 rcases this with rfl | rfl | rfl | rfl <;> decide
theorem CW (p : Pr) : fa (da p) 0 = sf (fa p 0) := rfl
theorem AA {p : Pr} {s : Ps} {hs : List Hd} {rs : List Bool} (hl : p.puts.length = 1) : eo (da p) s hs rs = eo p s hs rs := by
 unfold eo
 have e1 : bW (il (da p) s hs) (da p).takes.length = bW (il p s hs) p.takes.length := rp (fun i _ => by unfold il; rw [nz, kY]; rfl)
 have e2 : bW (jy (da p) s hs rs) (da p).puts.length = bW (jy p s hs rs) p.puts.length := by
  rw [hl]
  refine rp (n := 1) (fun i hi => ?_)
  have : i = 0 := by omega
  subst this
  unfold jy
  rw [nz, kY]; rfl
 rw [e1, e2]
theorem CX (p : Pr) (s : Ps) (data : List Int) : cS (da p) s data = cS p s data := by
 unfold cS
 have e1 : tab (fun i => (bj (da p) s data (xt (da p) i).next).1) (da p).regs.length = tab (fun i => (bj p s data (xt p i).next).1) p.regs.length := d6 (fun i _ => by rw [sg]; rfl)
 have e2 : tab (tx (da p) s data) (da p).mems.length = tab (tx p s data) p.mems.length := d6 (fun i _ => by unfold tx; rw [kY, sg, sg]; rfl)
 rw [e1, e2]
theorem CY (p : Pr) (s : Ps) (hs : List Hd) : tab (lX (da p) s hs) (da p).takes.length = tab (lX p s hs) p.takes.length := d6 (fun i _ => by unfold lX; rw [nz, kY]; rfl)
theorem CZ {p : Pr} {s : Ps} {hs : List Hd} {rs : List Bool} (hp : gi p) (hso : oE p s) (hh : xv p hs) (hl : p.puts.length = 1) (hw : (fa p 0).w = 2) :
  (a6 (da p) s hs rs).fires = (a6 p s hs rs).fires ∧ (a6 (da p) s hs rs).s = (a6 p s hs rs).s ∧ (a6 (da p) s hs rs).pops = (a6 p s hs rs).pops ∧
   ((a6 (da p) s hs rs).puts.getD 0 aY).has = ((a6 p s hs rs).puts.getD 0 aY).has ∧ (((a6 p s hs rs).puts.getD 0 aY).has = true → ((a6 (da p) s hs rs).puts.getD 0 aY).v = 3 - ((a6 p s hs rs).puts.getD 0 aY).v) := by
 unfold a6
 rw [AA hl]
 split
 ·refine ⟨rfl, ?_, CY p s hs, ?_⟩
  ·show cS (da p) s (fB (da p) s hs) = _
   rw [nz, CX]
  ·have e1 : (tab (gg (da p) s hs) (da p).puts.length).getD 0 aY = gg (da p) s hs 0 := bf (show 0 < 1 by omega)
   have e2 : (tab (gg p s hs) p.puts.length).getD 0 aY = gg p s hs 0 := bf (by omega)
   show ((tab (gg (da p) s hs) (da p).puts.length).getD 0 aY).has = ((tab (gg p s hs) p.puts.length).getD 0 aY).has ∧ (((tab (gg p s hs) p.puts.length).getD 0 aY).has = true → ((tab (gg (da p) s hs) (da p).puts.length).getD 0 aY).v = 3 - ((tab (gg p s hs) p.puts.length).getD 0 aY).v)
   rw [e1, e2]
   unfold gg
   rw [nz, kY, CW]
   have ew : (sf (fa p 0)).when = (fa p 0).when := rfl
   have ed : (sf (fa p 0)).data = x6 (fa p 0).data := rfl
   rw [ew, ed]
   split
   ·rename_i hd
    refine ⟨rfl, fun _ => ?_⟩
    show (bj (da p) s (fB p s hs) (x6 (fa p 0).data)).1 = 3 - (bj p s (fB p s hs) (fa p 0).data).1
    rw [sg]
    have ho := im hp hso (uG (s := s) (hs := hs) hp hh)
    have hpw := hp.pw 0 (by omega)
    have he := BE ho _ (fa p 0).data _ (Nat.le_refl _) hpw.2.2.1
    rw [hw] at he
    exact Gi he.1 he.2.1
   ·rename_i hd
    exact ⟨rfl, fun h => by cases h⟩
 ·refine ⟨rfl, rfl, rfl, ?_, fun h => ?_⟩
  ·show ((List.replicate 1 aY).getD 0 aY).has = ((List.replicate p.puts.length aY).getD 0 aY).has
   rw [hl]
  ·have h : ((List.replicate p.puts.length aY).getD 0 aY).has = true := h
   rw [hl] at h
   cases h
structure oY (c : Ci) (z n : Nat) : Prop where
 ok : b5 c
 zl : z + 1 = c.procs.length
 nl : n + 1 = c.chans.length
 p1 : (ba c z).puts.length = 1
 pn : oH (ba c z) 0 = n
 dn : (dg c n).dst = -1
 dm : ∀ m, m < n → 0 ≤ (dg c m).dst
 w2 : (fa (ba c z) 0).w = 2
section
variable {c : Ci} {z n : Nat} {s : Ns} {w : Nat → Bool}
theorem oY.wn (h : oY c z n) : (dg c n).w = 2 := by
 have hz := h.zl
 have := (h.ok.pt z (by omega) 0 (by rw [h.p1]; omega)).2.2.1
 rw [h.pn] at this
 rw [this, h.w2]
theorem oY.fn (h : oY c z n) : (dg c n).frm = z := by
 have hz := h.zl
 have := (h.ok.pt z (by omega) 0 (by rw [h.p1]; omega)).2.2.2
 rwa [h.pn] at this
theorem fC (h : oY c z n) (i : Nat) : ba (aA c z) i = if z = i then da (ba c z) else ba c i := by
 have hz := h.zl
 exact b3 (by omega)
theorem eu (c : Ci) (z : Nat) : (aA c z).procs.length = c.procs.length := by simp [aA]
theorem fQ (h : oY c z n) (i : Nat) : (ba (aA c z) i).takes = (ba c i).takes := by
 rw [fC h]
 split
 ·rename_i e; subst e; rfl
 ·rfl
theorem kk (h : oY c z n) (i : Nat) : (ba (aA c z) i).puts.length = (ba c i).puts.length ∧ ∀ j, j < (ba c i).puts.length → oH (ba (aA c z) i) j = oH (ba c i) j := by
 rw [fC h]
 split
 ·rename_i e
  subst e
  refine ⟨h.p1.symm, fun j hj => ?_⟩
  rw [h.p1] at hj
  have : j = 0 := by omega
  subst this
  rfl
 ·exact ⟨rfl, fun _ _ => rfl⟩
theorem Et (h : oY c z n) (cl : ByteArray) : bU (aA c z) cl = bU c cl := by
 funext q
 unfold bU
 rw [fC h]
 split
 ·rename_i e; subst e; rfl
 ·rfl
theorem km (hn : n < s.chans.length) (m : Nat) : fk (cL s n) m = if n = m then hE (fk s n) else fk s m := b3 hn
theorem iE (l : List Int) : (hE l).length = l.length := by simp [hE]
theorem wE {l : List Int} {i : Nat} (hi : i < l.length) : (hE l).getD i 0 = 3 - l.getD i 0 := ci (fun v => 3 - v) l i 0 0 hi
theorem AB (h : oY c z n) (hn : n < s.chans.length) (p : Nat) : hC (aA c z) (cL s n) p = hC c s p := by
 unfold hC
 rw [fQ h]
 refine d6 (fun j hj => ?_)
 have e : oG (ba (aA c z) p) j = oG (ba c p) j := by
  show ((ba (aA c z) p).takes.getD j cm).chan.toNat = _
  rw [fQ h]
 have hne : n ≠ oG (ba c p) j := fun he => by
  by_cases hp : p < c.procs.length
  ·have := (h.ok.tk p hp j hj).2.2.2
   rw [← he, h.dn] at this
   omega
  ·have : ba c p = aB := by rw [ba, List.getD, List.getElem?_eq_none (by omega)]; rfl
   rw [this] at hj
   exact absurd hj (Nat.not_lt_zero _)
 unfold cD
 rw [e, km hn, if_neg hne]
theorem AC (h : oY c z n) (hn : n < s.chans.length) (p : Nat) : i7 (aA c z) (cL s n) p = i7 c s p := by
 obtain ⟨h1, h2⟩ := kk h p
 unfold i7
 rw [h1]
 refine d6 (fun j hj => ?_)
 have e := h2 j hj
 unfold co
 rw [e]
 show (decide ((dg c (oH (ba c p) j)).dst = -1) || decide (((fk (cL s n) (oH (ba c p) j)).length : Int) < (dg c (oH (ba c p) j)).cap)) = _
 rw [km hn]
 split
 ·rename_i he; rw [iE, ← he]
 ·rfl
theorem kZ (h : oY c z n) (hs : cT c s) (p : Nat) : (ab (aA c z) (cL s n) p).fires = (ab c s p).fires ∧ (ab (aA c z) (cL s n) p).s = (ab c s p).s ∧ (ab (aA c z) (cL s n) p).pops = (ab c s p).pops ∧
  (p ≠ z → ab (aA c z) (cL s n) p = ab c s p) ∧ (p = z → ((ab (aA c z) (cL s n) p).puts.getD 0 aY).has = ((ab c s p).puts.getD 0 aY).has ∧ (((ab c s p).puts.getD 0 aY).has = true → ((ab (aA c z) (cL s n) p).puts.getD 0 aY).v = 3 - ((ab c s p).puts.getD 0 aY).v)) := by
 have hz := h.zl
 have hnl := h.nl
 have hcl := hs.cl
 have hn : n < s.chans.length := by omega
 have e : ab (aA c z) (cL s n) p = a6 (ba (aA c z) p) (BX s p) (hC c s p) (i7 c s p) := by
  unfold ab
  rw [AB h hn, AC h hn]; rfl
 rw [e, fC h]
 by_cases hp : z = p
 ·subst hp
  rw [if_pos rfl]
  have hzl : z < c.procs.length := by omega
  obtain ⟨a1, a2, a3, a4, a5⟩ := CZ (rs := i7 c s z) (h.ok.pr z hzl) (hs.pv z hzl) (nd h.ok hs hzl) h.p1 h.w2
  exact ⟨a1, a2, a3, fun q => absurd rfl q, fun _ => ⟨a4, a5⟩⟩
 ·rw [if_neg hp]
  exact ⟨rfl, rfl, rfl, fun _ => rfl, fun q => absurd q.symm hp⟩
theorem oZ (h : oY c z n) (hs : cT c s) (p : Nat) : bc (aA c z) (cL s n) w p = bc c s w p := by
 unfold bc oI
 rw [(kZ h hs p).1]
theorem tN {p p' : Pr} {f f' : Fi} (h1 : p'.takes = p.takes) (h2 : f'.pops = f.pops) : ∀ k, j5 p' f' k = j5 p f k
 | 0 => rfl
 | k + 1 => by
  have e : oG p' k = oG p k := by show (p'.takes.getD k cm).chan.toNat = _; rw [h1]
  rw [j5, j5, tN h1 h2 k, h2, e]
theorem x7 (h : oY c z n) (hs : cT c s) (p m : Nat) : hD (aA c z) (cL s n) p m = hD c s p m := by
 unfold hD
 rw [tN (fQ h p) (kZ h hs p).2.2.1, fQ h]
theorem AD (h : oY c z n) (p : Nat) : hD c s p n = false := by
 cases ht : hD c s p n
 ·rfl
 ·exfalso
  have hm : n ∈ j5 (ba c p) (ab c s p) (ba c p).takes.length := by simpa [hD] using ht
  by_cases hp : p < c.procs.length
  ·have := (uM h.ok hp (Nat.le_refl _) hm).2
   rw [h.dn] at this
   omega
  ·have : ba c p = aB := by rw [ba, List.getD, List.getElem?_eq_none (by omega)]; rfl
   rw [this] at hm
   cases hm
theorem C0 (h : oY c z n) (hs : cT c s) (m : Nat) : jt (aA c z) (cL s n) w m = jt c s w m := by
 unfold jt
 have e : oJ (aA c z) m = oJ c m := rfl
 rw [e, oZ h hs, x7 h hs]
theorem C2 (h : oY c z n) : jt c s w n = 0 := by
 unfold jt
 rw [AD h, if_neg (by simp)]
theorem Eu (h : oY c z n) (hs : cT c s) (p m : Nat) : iq (aA c z) (cL s n) p m = if m = n then (if p = z then hE (iq c s p m) else iq c s p m) else iq c s p m := by
 obtain ⟨h1, h2, h3, h4, h5⟩ := kZ h hs p
 by_cases hp : p = z
 ·subst hp
  obtain ⟨k1, k2⟩ := h5 rfl
  have q1 : iq c s p m = if ((ab c s p).puts.getD 0 aY).has = true ∧ m = n then [((ab c s p).puts.getD 0 aY).v] else [] := by
   unfold iq
   rw [h.p1]
   show ((([] : List (Nat × Int)) ++ if ((ab c s p).puts.getD 0 aY).has = true then [(oH (ba c p) 0, ((ab c s p).puts.getD 0 aY).v)] else []).filter (fun e : Nat × Int => e.1 == m)).map (fun e : Nat × Int => e.2) = _
   rw [h.pn]
   by_cases ha : ((ab c s p).puts.getD 0 aY).has = true
   ·rw [if_pos ha]
    by_cases hm : m = n
    ·rw [if_pos ⟨ha, hm⟩, hm]; simp
    ·rw [if_neg (fun q => hm q.2)]
     have : (n == m) = false := by simp; omega
     simp [this]
   ·rw [if_neg ha, if_neg (fun q => ha q.1)]; rfl
  have q2 : iq (aA c p) (cL s n) p m = if ((ab c s p).puts.getD 0 aY).has = true ∧ m = n then [3 - ((ab c s p).puts.getD 0 aY).v] else [] := by
   unfold iq
   rw [(kk h p).1, h.p1]
   show ((([] : List (Nat × Int)) ++ if ((ab (aA c p) (cL s n) p).puts.getD 0 aY).has = true then [(oH (ba (aA c p) p) 0, ((ab (aA c p) (cL s n) p).puts.getD 0 aY).v)] else []).filter (fun e : Nat × Int => e.1 == m)).map (fun e : Nat × Int => e.2) = _
   rw [(kk h p).2 0 (by rw [h.p1]; omega), h.pn, k1]
   by_cases ha : ((ab c s p).puts.getD 0 aY).has = true
   ·rw [if_pos ha, k2 ha]
    by_cases hm : m = n
    ·rw [if_pos ⟨ha, hm⟩, hm]; simp
    ·rw [if_neg (fun q => hm q.2)]
     have : (n == m) = false := by simp; omega
     simp [this]
   ·rw [if_neg ha, if_neg (fun q => ha q.1)]; rfl
  rw [q1, q2]
  by_cases hm : m = n
  ·rw [if_pos hm, if_pos rfl]
   split <;> rfl
  ·rw [if_neg hm, if_neg (fun q => hm q.2), if_neg (fun q => hm q.2)]
 ·have e := h4 hp
  have hpr : ba (aA c z) p = ba c p := by rw [fC h, if_neg (fun q => hp q.symm)]
  have : iq (aA c z) (cL s n) p m = iq c s p m := by unfold iq; rw [e, hpr]
  rw [this, if_neg hp]
  split <;> rfl
theorem C3 (h : oY c z n) (hs : cT c s) (m : Nat) : fp (aA c z) (cL s n) w m = if m = n then hE (fp c s w m) else fp c s w m := by
 unfold fp
 have e : i8 (aA c z) m = i8 c m := rfl
 rw [e, oZ h hs]
 by_cases hf : bc c s w (i8 c m) = true
 ·rw [if_pos hf, if_pos hf, Eu h hs]
  by_cases hm : m = n
  ·have : i8 c m = z := by rw [hm]; show (dg c n).frm.toNat = z; rw [h.fn]; omega
   rw [if_pos hm, if_pos hm, if_pos this]
  ·rw [if_neg hm, if_neg hm]
 ·rw [if_neg hf, if_neg hf]
  split <;> rfl
theorem Ew (h : oY c z n) (hs : cT c s) : dp (aA c z) (cL s n) w = cL (dp c s w) n := by
 have hnl := h.nl
 have hcl := hs.cl
 have hn : n < s.chans.length := by omega
 have e1 : tab (gm (aA c z) (cL s n) w) (aA c z).procs.length = tab (gm c s w) c.procs.length := by
  rw [eu]
  refine d6 (fun p _ => ?_)
  unfold gm
  rw [oZ h hs, (kZ h hs p).2.1]; rfl
 have hn2 : n < (dp c s w).chans.length := by show n < (tab _ _).length; rw [aK]; omega
 have e2 : tab (j6 (aA c z) (cL s n) w) c.chans.length = (dp c s w).chans.set n (hE (fk (dp c s w) n)) := by
  refine v7 (d := []) (by rw [aK, List.length_set]; exact (aK _ _).symm) (fun m hm => ?_)
  rw [aK] at hm
  rw [bf hm, b3 hn2]
  have g : ∀ k, k < c.chans.length → (dp c s w).chans.getD k [] = j6 c s w k := fun k hk => bf hk
  unfold j6
  rw [C0 h hs, C3 h hs, km hn]
  by_cases hm2 : n = m
  ·subst hm2
   rw [if_pos rfl, if_pos rfl, if_pos rfl]
   show _ = hE ((dp c s w).chans.getD n [])
   rw [g n hm]
   unfold j6
   rw [C2 h, List.drop_zero, List.drop_zero]
   unfold hE
   rw [List.map_append]
  ·rw [if_neg hm2, if_neg (fun q => hm2 q.symm), if_neg hm2, g m hm]; rfl
 show (⟨tab (gm (aA c z) (cL s n) w) (aA c z).procs.length, tab (j6 (aA c z) (cL s n) w) c.chans.length⟩ : Ns) = _
 rw [e1, e2]; rfl
theorem zq (h : oY c z n) : ∀ (l : List ByteArray) {s : Ns}, cT c s → aR (aA c z) (cL s n) l = cL (aR c s l) n
 | [], s, _ => rfl
 | a :: r, s, hs => by
  show aR (aA c z) (dp (aA c z) (cL s n) (bU (aA c z) a)) r = _
  rw [Et h, Ew h hs]
  exact zq h r (xz h.ok hs _)
theorem C4 (h : oY c z n) (b : List Int) : ∀ i, mf (aA c z) b i = mf c b i
 | 0 => by
  have : aC (aA c z) = aC c := by
   unfold aC
   rw [eu]
   have : tab (fun i => aJ (ba (aA c z) i)) c.procs.length = tab (fun i => aJ (ba c i)) c.procs.length := d6 (fun i _ => by
    show aJ (ba (aA c z) i) = aJ (ba c i)
    rw [fC h]
    split
    ·rename_i e; subst e; rfl
    ·rfl)
   rw [this]; rfl
  rw [mf, mf, this]
 | i + 1 => by
  rw [mf, mf, C4 h b i]; rfl
theorem zr {m : Nat} (hm : 0 ≤ (dg c m).frm) (b : List Int) : ∀ i, fk (mf c b i).1 m = []
 | 0 => by
  show (List.replicate c.chans.length ([] : List Int)).getD m [] = []
  by_cases h : m < c.chans.length
  ·simp [List.getD, h]
  ·rw [List.getD, List.getElem?_eq_none (by simpa using h)]; rfl
 | i + 1 => by
  have ih := zr hm b i
  rw [mf]
  split
  ·exact ih
  ·rename_i hi
   show ((mf c b i).1.chans.set i _).getD m [] = []
   have hne : i ≠ m := fun e => hi (by rw [e]; exact hm)
   simp only [fk, List.getD, List.getElem?_set] at ih ⊢
   rw [if_neg hne]
   exact ih
theorem AE (h : oY c z n) (b : List Int) : ay (aA c z) b = cL (ay c b) n := by
 have e : ay (aA c z) b = ay c b := congrArg Prod.fst (C4 h b c.chans.length)
 rw [e]
 have hw : fk (ay c b) n = [] := zr (by rw [h.fn]; omega) b c.chans.length
 unfold cL
 rw [hw]
 show _ = (⟨(ay c b).procs, (ay c b).chans.set n []⟩ : Ns)
 have : (ay c b).chans.set n [] = (ay c b).chans := by
  by_cases hn : n < (ay c b).chans.length
  ·have hg : (ay c b).chans[n] = [] := by rw [← gy _ [] hn]; exact hw
   rw [← hg, List.set_getElem_self]
  ·exact List.set_eq_of_length_le (by omega)
 rw [this]
theorem Gj {p : Pr} (hp : gi p) (hl : p.puts.length = 1) (hw : (fa p 0).w = 2) (hd : df (fa p 0).data ≤ 2) : gi (da p) where
 rl := hp.rl
 ml := hp.ml
 tl := hp.tl
 pl := by show 1 ≤ 100; omega
 rw := hp.rw
 mw := hp.mw
 tw := hp.tw
 pw := fun i hi => by
  have h1 : i = 0 := by have : (da p).puts.length = 1 := rfl; omega
  subst h1
  obtain ⟨a1, a2, a3, a4⟩ := hp.pw 0 (by omega)
  rw [CW]
  refine ⟨a1, a2, ?_, ?_⟩
  ·show dK (lG p) (x6 (fa p 0).data) = some (fa p 0).w
   rw [hw] at a3 ⊢
   show (match dK.tyL (lG p) [(fa p 0).data] with | none => none | some ws => _) = _
   have : dK.tyL (lG p) [(fa p 0).data] = some [2] := by rw [dK.tyL, a3, dK.tyL]
   rw [this]
   rfl
  ·show df (x6 (fa p 0).data) ≤ 3
   unfold x6
   rw [df, df.depL, df.depL]
   omega
theorem Gk (h : oY c z n) (hd : df (fa (ba c z) 0).data ≤ 2) : b5 (aA c z) := by
 have hz := h.zl
 have hc := h.ok
 refine ⟨by rw [eu]; exact hc.n1, by rw [eu]; exact hc.nl, hc.cl, fun i hi => ?_, fun i hi j hj => ?_, fun i hi j hj => ?_, fun i hi j k hj hk => ?_, fun i hi j k hj hk => ?_, hc.cw, hc.cp⟩
 ·rw [eu] at hi
  rw [fC h]
  split
  ·exact Gj (hc.pr z (by omega)) h.p1 h.w2 hd
  ·exact hc.pr i hi
 ·rw [eu] at hi
  have ht := fQ h i
  have e : jE (ba (aA c z) i) j = jE (ba c i) j := by show (ba (aA c z) i).takes.getD j cm = _; rw [ht]
  have e2 : oG (ba (aA c z) i) j = oG (ba c i) j := by show (jE (ba (aA c z) i) j).chan.toNat = _; rw [e]
  rw [ht] at hj
  rw [e, e2]
  exact hc.tk i hi j hj
 ·rw [eu] at hi
  obtain ⟨h1, h2⟩ := kk h i
  rw [h1] at hj
  have e2 := h2 j hj
  have key := hc.pt i hi j hj
  rw [e2]
  have : (fa (ba (aA c z) i) j).chan = (fa (ba c i) j).chan ∧ (fa (ba (aA c z) i) j).w = (fa (ba c i) j).w := by
   rw [fC h]
   split
   ·rename_i e
    subst e
    rw [h.p1] at hj
    have : j = 0 := by omega
    subst this
    exact ⟨rfl, rfl⟩
   ·exact ⟨rfl, rfl⟩
  rw [this.1, this.2]
  exact key
 ·rw [eu] at hi
  have ht := fQ h i
  have e2 : ∀ j, oG (ba (aA c z) i) j = oG (ba c i) j := fun j => by show ((ba (aA c z) i).takes.getD j cm).chan.toNat = _; rw [ht]
  rw [ht] at hj hk
  rw [e2, e2]
  exact hc.td i hi j k hj hk
 ·rw [eu] at hi
  obtain ⟨h1, h2⟩ := kk h i
  rw [h1] at hj hk
  rw [h2 j hj, h2 k hk]
  exact hc.pd i hi j k hj hk
theorem Gl (h : oY c z n) (hs : cT c s) : cT (aA c z) (cL s n) := by
 have hz := h.zl
 have hnl := h.nl
 have hcl := hs.cl
 have hn : n < s.chans.length := by omega
 refine ⟨by rw [eu]; exact hs.pl, by show (s.chans.set _ _).length = _; rw [List.length_set]; exact hcl, fun i hi => ?_, fun m hm i hi => ?_, fun m hm h1 h2 => ?_⟩
 ·rw [eu] at hi
  have hp := hs.pv i hi
  rw [fC h]
  split
  ·rename_i e
   subst e
   exact ⟨hp.rl, hp.rv, hp.ml, hp.mn, hp.mv⟩
  ·exact hp
 ·show cJ _ (dg c m).w
  rw [km hn] at hi ⊢
  by_cases e : n = m
  ·subst e
   rw [if_pos rfl] at hi ⊢
   rw [iE] at hi
   rw [wE hi]
   have := hs.cv n (by omega) i hi
   rw [h.wn] at this ⊢
   obtain ⟨q1, q2⟩ := this
   have q2 : (fk s n).getD i 0 ≤ 3 := q2
   exact ⟨by omega, by show _ ≤ (3 : Int); omega⟩
  ·rw [if_neg e] at hi ⊢
   exact hs.cv m hm i hi
 ·show ((fk (cL s n) m).length : Int) ≤ (dg c m).cap
  have key := hs.cc m hm h1 h2
  rw [km hn]
  split
  ·rename_i e; subst e; rw [iE]; exact key
  ·exact key
theorem Gm {k : Nat} (hm : l5 s k) (hn : n < s.chans.length) : l5 (cL s n) k := fun m => by
 rw [km hn]
 split
 ·rw [iE]; exact hm n
 ·exact hm m
theorem tO (h : ∀ m, m < n → 0 ≤ (dg c m).dst) : ∀ k, k ≤ n → jA c s k = []
 | 0, _ => rfl
 | k + 1, hk => by rw [xO (by have := h k (by omega); omega), tO h k (by omega)]
theorem zt (h : oY c z n) : cU c s = [⟨(dg c n).name, fk s n⟩] := by
 have hnl := h.nl
 unfold cU
 rw [← hnl, uU h.dn, tO h.dm n (Nat.le_refl _)]; rfl
theorem tP {t : Ns} : ∀ k, jA (aA c z) t k = jA c t k
 | 0 => rfl
 | k + 1 => by rw [jA, jA, tP k]; rfl
theorem Ey (h : oY c z n) (hn : n < s.chans.length) : cU (aA c z) (cL s n) = [⟨(dg c n).name, hE (fk s n)⟩] := by
 have hnl := h.nl
 have e : cU (aA c z) (cL s n) = cU c (cL s n) := tP _
 rw [e, zt h, km hn, if_pos rfl]
theorem Ez (nm : ByteArray) : d8 [⟨nm, []⟩] [⟨nm, []⟩] = ⟨e0, 0, true⟩ := is_eqQ (a := [⟨nm, []⟩])
where is_eqQ {a : List Sm} : d8 a a = ⟨e0, 0, true⟩ := tJ (fun z hz => by
 cases hc : jB a a z
 ·rfl
 ·obtain ⟨h1, h2, h3⟩ := Es hc
  exfalso
  rw [h2] at h3
  obtain ⟨d, _, _, _, h4, _⟩ := Gg h3
  apply h4
  show (a.getD z bP).words.getD d 0 = (gt a (z : Int)).words.getD d 0
  rw [wm (by omega), Int.toNat_natCast])
theorem EA (nm : ByteArray) {l : List Int} (hl : 0 < l.length) : d8 [⟨nm, l⟩] [⟨nm, hE l⟩] = ⟨nm, 0, false⟩ := by
 have hf : ∀ (l : List Int), aW [⟨nm, l⟩] nm = 0 := fun l => bM (f := EW [⟨nm, l⟩] nm) (i := 0) (by show (nm.toList == nm.toList) = true; exact beq_self_eq_true _) (fun z hz => by omega) (show 0 < 1 by omega)
 have hd : gu l (hE l) = 0 := Gh (d := 0) hl (by rw [iE]; exact hl) (by rw [wE hl]; omega) (fun z hz => by omega)
 have hw : ep [⟨nm, hE l⟩] (aW [⟨nm, hE l⟩] nm) = hE l := by rw [hf]; rfl
 have hc : jB [⟨nm, l⟩] [⟨nm, hE l⟩] 0 = true := qe (hf l) (by show ¬aW _ nm < 0; rw [hf]; omega) (by show 0 ≤ gu l (ep _ (aW _ nm)); rw [hw, hd]; omega)
 rw [uV (i := 0) (show 0 < [(⟨nm, l⟩ : Sm)].length by simp) hc (fun z hz => by omega)]
 unfold F1
 show (⟨nm, gu l (ep [⟨nm, hE l⟩] (aW [⟨nm, hE l⟩] nm)), false⟩ : Vd) = _
 rw [hw, hd]
def am (x : Int) : Int := ([0, 1, 5] : List Int).getD (x % 3).toNat 0
theorem Gn {x : Int} (h : 0 ≤ x) : am x = 0 ∨ am x = 1 ∨ am x = 5 := by
 unfold am
 have : (x % 3).toNat = 0 ∨ (x % 3).toNat = 1 ∨ (x % 3).toNat = 2 := by omega
 rcases this with e | e | e <;> rw [e] <;> decide
theorem C5 {sh : Int} {b : List Int} (h0 : sh = 0 ∨ sh = 1 ∨ sh = 5) (hb : lW b) : oY (aa sh b) ((aa sh b).procs.length - 1) ((aa sh b).chans.length - 1) ∧ df (fa (ba (aa sh b) ((aa sh b).procs.length - 1)) 0).data ≤ 2 := by
 have hc : b5 (aa sh b) := E1 (by omega) (by omega) hb
 have hpl := r7 sh
 have lp : (aa sh b).procs.length = (ae sh).length := aK _ _
 have lc : (aa sh b).chans.length = eP sh := aK _ _
 have gp : ∀ i, i < (ae sh).length → ba (aa sh b) i = nr b (ae sh) i := fun i hi => bf hi
 have gc : ∀ m, m < eP sh → dg (aa sh b) m = r6 sh (ae sh) m := fun m hm => bf hm
 have hz : (aa sh b).procs.length - 1 < (ae sh).length := by omega
 have hn1 : eP sh - 1 < eP sh := by unfold eP; omega
 have hpl : (nr b (ae sh) ((aa sh b).procs.length - 1)).puts.length = ((ae sh).getD ((aa sh b).procs.length - 1) bV).puts.length := aK _ _
 have key : ((ae sh).getD ((ae sh).length - 1) bV).puts.length = 1 ∧ ((ae sh).getD ((ae sh).length - 1) bV).puts.getD 0 0 = ((eP sh - 1 : Nat) : Int) ∧ tM (ae sh) ((eP sh - 1 : Nat) : Int) (ae sh).length = -1 ∧ ∀ m, m < eP sh - 1 → 0 ≤ tM (ae sh) (m : Int) (ae sh).length := by
  rcases h0 with rfl | rfl | rfl <;> decide
 obtain ⟨k1, k2, k3, k4⟩ := key
 rw [lp] at hpl hz
 have hpt : fa (nr b (ae sh) ((ae sh).length - 1)) 0 = Cz b _ _ _ ((ae sh).getD ((ae sh).length - 1) bV) 0 := bf (by omega)
 refine ⟨⟨hc, by omega, by rw [lc]; unfold eP; omega, ?_, ?_, ?_, ?_, ?_⟩, ?_⟩
 ·rw [lp, gp _ hz, hpl]; exact k1
 ·rw [lp, lc, gp _ hz]
  show (fa _ 0).chan.toNat = _
  rw [hpt]
  show (((ae sh).getD ((ae sh).length - 1) bV).puts.getD 0 0).toNat = _
  rw [k2]; omega
 ·rw [lc, gc _ hn1]; exact k3
 ·intro m hm
  rw [lc] at hm
  rw [gc m (by omega)]; exact k4 m hm
 ·rw [lp, gp _ hz, hpt]; rfl
 ·rw [lp, gp _ hz, hpt]
  show df (ai _ b 2 _ 2).1 ≤ 2
  exact (oC hb 2 _ 2 (by omega) (by omega) (by omega)).2.1
end
end Go.Proofs.YtgmpoenfoacofaaGreat
