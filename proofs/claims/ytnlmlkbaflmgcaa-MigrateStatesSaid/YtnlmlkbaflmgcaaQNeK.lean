/-
  Circuits, plain data: what the reference's loops compute.
-/
import Derived.Test.YtnlmlkbaflmgcaaQNeF
namespace Go.Proofs.Ytnlmlkbaflmgcaa
open Go.RowKit
set_option linter.unusedVariables false
set_option linter.unusedSimpArgs false
def sZ (k : Int) (q : Nat) : Bool := decide ((q : Int) = k)
section
variable {c : Ci} {s : Ns} {w : Nat → Bool} {i k : Nat}
theorem Jm (h : (!w i) = true) : bq c s w i = false := by
 unfold bq; cases hw : w i
 ·rfl
 ·rw [hw] at h; cases h
theorem HO (h : wQ c s i = false) : bq c s w i = false := by unfold bq; rw [h, Bool.and_false]
theorem HP (h : (!w i) = false) (h2 : wQ c s i = true) : bq c s w i = true := by
 unfold bq; cases hw : w i
 ·rw [hw] at h; cases h
 ·rw [h2]; rfl
theorem GT (h : bq c s w i = false) : yu s i = cM c s w i := by unfold cM; rw [if_neg (by rw [h]; simp)]
theorem HQ (h : bq c s w i = true) : (ay c s i).s = cM c s w i := by unfold cM; rw [if_pos h]
theorem Ai (h : bq c s w i = false) : px c s w (i + 1) = px c s w i := by rw [px, if_neg (by rw [h]; simp), List.append_nil]
theorem DX (h : bq c s w i = true) : px c s w (i + 1) = px c s w i ++ sJ (bx c i) (ay c s i) (bx c i).takes.length := by rw [px, if_pos h]
theorem Aj (h : bq c s w i = false) : mV c s w (i + 1) = mV c s w i := by rw [mV, if_neg (by rw [h]; simp), List.append_nil]
theorem DY (h : bq c s w i = true) : mV c s w (i + 1) = mV c s w i ++ sK (bx c i) (ay c s i) (bx c i).puts.length := by rw [mV, if_pos h]
theorem HR {p : Pr} {f : Fi} (h : f.pops.getD k false = false) : sJ p f (k + 1) = sJ p f k := by rw [sJ, if_neg (by rw [h]; simp), List.append_nil]
theorem FW {p : Pr} {f : Fi} (h : f.pops.getD k false = true) : sJ p f (k + 1) = sJ p f k ++ [tV p k] := by rw [sJ, if_pos h]
theorem HS {p : Pr} {f : Fi} (h : (f.puts.getD k cz).has = false) : sK p f (k + 1) = sK p f k := by rw [sK, if_neg (by rw [h]; simp), List.append_nil]
theorem FX {p : Pr} {f : Fi} (h : (f.puts.getD k cz).has = true) : sK p f (k + 1) = sK p f k ++ [(qx p k, (f.puts.getD k cz).v)] := by rw [sK, if_pos h]
end
theorem DZ (p : Nat) : sZ (p : Int) = Dv p := funext fun q => by
 unfold sZ Dv
 by_cases h : q = p
 ·rw [decide_eq_true h, decide_eq_true (by omega)]
 ·rw [decide_eq_false h, decide_eq_false (by omega)]
theorem D0 {c : Ci} {s : Ns} {w : Nat → Bool} (hc : bX c) {k : Nat} (h : pX s k) : pX (cG c s w) (k + 1) := by
 intro n
 by_cases hn : n < c.chans.length
 ·rw [oh c s w hn]
  unfold ie
  rw [List.length_append, List.length_drop]
  have h1 : (jJ s n).length ≤ k := h n
  have h2 : (gi c s w n).length ≤ 1 := by
   unfold gi; split
   ·exact rT hc n
   ·simp
  omega
 ·have : jJ (cG c s w) n = [] := by show (tab _ _).getD n [] = []; exact nZ (by omega)
  rw [this]; simp
theorem rX {c : Ci} {s : Ns} {p : Int} (h : ¬0 ≤ p) : ib c s p = false := by unfold ib; rw [decide_eq_false h]; rfl
theorem rY {c : Ci} {s : Ns} {p : Int} (h : ¬p < c.procs.length) : ib c s p = false := by unfold ib; rw [decide_eq_false h, Bool.false_and, Bool.and_false]
theorem qB {c : Ci} {s : Ns} {p : Int} (h : 0 ≤ p) (h2 : p < c.procs.length) : ib c s p = (ay c s p.toNat).fires := by unfold ib; rw [decide_eq_true h, decide_eq_true h2]; rfl
theorem HT {c : Ci} {s : Ns} {p : Nat} (h : p < c.procs.length) : ib c s (p : Int) = wQ c s p := by
 rw [qB (by omega) (by omega)]; rfl
def GU (a : Ns) : Prop := a.procs.length ≤ 1000000 ∧ a.chans.length ≤ 1000000 ∧ (∀ n, (a.chans.getD n []).length ≤ 1099511627776) ∧ (∀ i, (a.procs.getD i aZ).regs.length ≤ 1000000) ∧ (∀ i, (a.procs.getD i aZ).mems.length ≤ 1000000) ∧ ∀ i j, ((a.procs.getD i aZ).mems.getD j []).length ≤ 1000000
theorem HU : GU Lv := by
 refine ⟨by simp, by simp, fun n => by simp, fun i => by simp, fun i => by simp, fun i j => by simp⟩
def ck (a b : Ns) : Bool := decide (a.procs.length = b.procs.length) && decide (a.chans.length = b.chans.length) && cF (fun i => dh (a.procs.getD i aZ) (b.procs.getD i aZ)) a.procs.length && decide (a.chans = b.chans)
section
variable {a b : Ns}
theorem im (h : ¬a.procs.length = b.procs.length) : ck a b = false := by unfold ck; rw [decide_eq_false h]; rfl
theorem io (h : ¬a.chans.length = b.chans.length) : ck a b = false := by unfold ck; rw [decide_eq_false h, Bool.and_false]; rfl
theorem ip {i : Nat} (hi : i < a.procs.length) (h : dh (a.procs.getD i aZ) (b.procs.getD i aZ) = false) : ck a b = false := by unfold ck; rw [dP hi h, Bool.and_false]; rfl
theorem iq {n : Nat} (h : ¬a.chans.getD n [] = b.chans.getD n []) : ck a b = false := by
 unfold ck; rw [decide_eq_false (show ¬a.chans = b.chans from fun e => h (by rw [e])), Bool.and_false]
theorem ir (h1 : a.procs.length = b.procs.length) (h2 : a.chans.length = b.chans.length) (h3 : ∀ i, i < a.procs.length → dh (a.procs.getD i aZ) (b.procs.getD i aZ) = true) (h4 : ∀ n, n < a.chans.length → a.chans.getD n [] = b.chans.getD n []) : ck a b = true := by
 unfold ck; rw [decide_eq_true h1, decide_eq_true h2, bi.2 h3, decide_eq_true (kE h2 h4)]; rfl
end
theorem w9 (a : Ps) : dh a a = true := by simp [dh]
theorem yK {a b : Ns} : ck a b = true ↔ a = b := by
 constructor
 ·intro h
  unfold ck at h
  simp only [Bool.and_eq_true, decide_eq_true_eq, bi] at h
  obtain ⟨⟨⟨h1, h2⟩, h3⟩, h4⟩ := h
  have : a.procs = b.procs := kE h1 (fun i hi => by have := h3 i hi; exact ig.1 this)
  cases a; cases b; simp_all
 ·rintro rfl
  unfold ck
  simp only [Bool.and_eq_true, decide_eq_true_eq, bi]
  exact ⟨⟨⟨trivial, trivial⟩, fun i hi => w9 _⟩, trivial⟩
def gk (s : Ns) (n : Nat) (l : List Int) : Ns := ⟨s.procs, s.chans.set n l⟩
def wB (l : List Bool) (q : Nat) : Bool := l.getD q false
def Jn : Option Int → V
 | none => .nsl
 | some v => .sl 1 (aa .i64) 0 [v]
def D1 (o : Option Int) : List V := [Jn o]
def s4 : Option Int → List Int
 | none => []
 | some v => [v]
theorem HV (o : Option Int) : (s4 o).length ≤ 1 := by cases o <;> simp [s4]
theorem Jo (o : Option Int) : BZ (Jn o) (.sl 1 (aa .i64) 0 (s4 o)) := by
 cases o
 ·exact rfl
 ·simp [Jn, s4, BZ]
section
variable {c : Ci} {s : Ns} {w : Nat → Bool} {i k : Nat}
theorem xa (l : List Int) (a b : List Nat) : cI (cI l a) b = cI l (a ++ b) := by simp [cI, List.foldl_append]
theorem pY (l : List (Option Int)) (a b : List (Nat × Int)) : cx (cx l a) b = cx l (a ++ b) := by simp [cx, List.foldl_append]
theorem ot (ev : List (Nat × Int)) : ∀ (l : List (Option Int)) (n : Nat), (∀ e ∈ ev, e.1 ≠ n) → (cx l ev).getD n none = l.getD n none := by
 induction ev with
 | nil => intro l n h; rfl
 | cons e r ih =>
  intro l n h
  show (cx (l.set e.1 _) r).getD n none = _
  rw [ih _ n (fun e' he' => h e' (List.mem_cons_of_mem _ he'))]
  have := h e (List.mem_cons_self ..)
  simp [List.getD, List.getElem?_set, this]
theorem xb (ev : List (Nat × Int)) : ∀ (l : List (Option Int)) (n : Nat), n < l.length → l.getD n none = none → ((ev.filter (fun e => e.1 == n)).map (·.2)).length ≤ 1 → s4 ((cx l ev).getD n none) = (ev.filter (fun e => e.1 == n)).map (·.2) := by
 induction ev with
 | nil => intro l n hn h0 h; show s4 (l.getD n none) = _; rw [h0]; rfl
 | cons e r ih =>
  intro l n hn h0 h
  show s4 ((cx (l.set e.1 (some e.2)) r).getD n none) = _
  by_cases he : e.1 = n
  ·have hf : (e :: r).filter (fun e => e.1 == n) = e :: r.filter (fun e => e.1 == n) := by simp [he]
   rw [hf, List.map_cons] at h ⊢
   have hr : r.filter (fun e => e.1 == n) = [] := by
    simp only [List.length_cons, List.length_map] at h
    exact List.eq_nil_of_length_eq_zero (by omega)
   rw [hr, ot]
   ·subst he
    simp [List.getD, hn, s4]
   ·intro e' he' h1
    have : e' ∈ r.filter (fun e => e.1 == n) := by rw [List.mem_filter]; exact ⟨he', by simp [h1]⟩
    rw [hr] at this; cases this
  ·have hf : (e :: r).filter (fun e => e.1 == n) = r.filter (fun e => e.1 == n) := by simp [he]
   rw [hf] at h ⊢
   refine ih _ n (by simpa using hn) ?_ h
   have : (l.set e.1 (some e.2)).getD n none = l.getD n none := by simp [List.getD, List.getElem?_set, he]
   rw [this]; exact h0
theorem BD (hc : bX c) (n : Nat) : (gi c s w n).length ≤ 1 := by
 unfold gi; split
 ·exact rT hc n
 ·simp
theorem xc {e : Nat × Int} : ∀ {P : Nat}, e ∈ mV c s w P → ∃ p, p < P ∧ e ∈ sK (bx c p) (ay c s p) (bx c p).puts.length
 | 0, h => by cases h
 | P + 1, h => by
  rw [mV, List.mem_append] at h
  rcases h with h | h
  ·obtain ⟨p, h1, h2⟩ := xc h; exact ⟨p, by omega, h2⟩
  ·split at h
   ·exact ⟨P, by omega, h⟩
   ·cases h
theorem BE (hc : bX c) (hi : i < c.procs.length) (hk : k < (bx c i).puts.length) {f : Fi} {m : Nat} : (cx (List.replicate m none) (mV c s w i ++ sK (bx c i) f k)).getD (qx (bx c i) k) none = none := by
 rw [ot _ _ _ (fun e he h => ?_)]
 ·exact db
 ·rcases List.mem_append.1 he with he | he
  ·obtain ⟨p, h1, h3⟩ := xc he
   have h4 := (zO hc (show p < c.procs.length by omega) (Nat.le_refl _) h3).2
   rw [h] at h4
   have h5 := (hc.pt i hi k hk).2.2.2
   have h6 : ((p : Nat) : Int) = (i : Int) := h4.symm.trans h5
   omega
  ·obtain ⟨j, h1, _, h3, _⟩ := n9 he
   have := hc.pd i hi j k (by omega) hk (h3.trans h)
   omega
theorem Ak (hc : bX c) {n : Nat} (hn : n < c.chans.length) : (cI (List.replicate c.chans.length 0) (px c s w c.procs.length)).getD n 0 = (ic c s w n : Nat) := by
 rw [wR _ _ _ (by simpa using hn), db]
 have h1 := rQ (w := w) (s := s) hc n (Nat.le_refl _)
 rw [FF hc] at h1
 split
 ·rename_i hm
  have := List.count_pos_iff.2 hm
  unfold ic at h1 ⊢
  split at h1
  ·rename_i hh; rw [if_pos hh]; rfl
  ·omega
 ·rename_i hm
  rw [List.count_eq_zero.2 hm] at h1
  rw [← h1]; rfl
theorem FY (n : Nat) : ic c s w n ≤ (jJ s n).length := by
 unfold ic; split
 ·rename_i h
  exact Bu (t3 h.1).2 h.2
 ·omega
theorem FZ (hc : bX c) {n : Nat} (hn : n < c.chans.length) :
  (jJ s n).drop ((cI (List.replicate c.chans.length 0) (px c s w c.procs.length)).getD n 0).toNat ++ s4 ((cx (List.replicate c.chans.length none) (mV c s w c.procs.length)).getD n none) = ie c s w n := by
 rw [Ak hc hn, Int.toNat_natCast, xb]
 ·rw [rR hc n (Nat.le_refl _), zP]; rfl
 ·simpa using hn
 ·exact db
 ·rw [rR hc n (Nat.le_refl _), zP]; exact BD hc n
theorem Jp {l : List Bool} (h : ¬l.getD i false = true) : bq c s (wB l) i = false := Jm (by show (!l.getD i false) = true; simpa using h)
theorem HW {l : List Bool} (h : (!(ay c s i).fires) = true) : bq c s (wB l) i = false := HO (by show (ay c s i).fires = false; simpa using h)
theorem HX {l : List Bool} (h : l.getD i false = true) (h2 : (!(ay c s i).fires) = false) : bq c s (wB l) i = true := HP (by show (!l.getD i false) = false; rw [h]; rfl) (by show (ay c s i).fires = true; simpa using h2)
theorem D2 {n p : Nat} (h : p < n) : wB ((List.replicate n false).set p true) = sZ (p : Int) := funext fun q => by
 rw [DZ]; unfold wB Dv
 rw [fA (by simpa using h), db]
 by_cases e : p = q
 ·rw [if_pos e, decide_eq_true e.symm]
 ·rw [if_neg e, decide_eq_false (fun h => e h.symm)]
theorem Al (hs : fB c s) {p : Int} (h : ib c s p = false) : cG c s (sZ p) = s := Du hs (fun q hq => by
 unfold bq sZ
 by_cases e : (q : Int) = p
 ·subst e
  rw [HT hq] at h
  rw [h, Bool.and_false]
 ·rw [decide_eq_false e, Bool.false_and])
end
theorem F0 {c : Ci} {s : Ns} {p : Int} (h : ib c s p = true) : 0 ≤ p ∧ p < c.procs.length := by
 unfold ib at h
 simp only [Bool.and_eq_true, decide_eq_true_eq] at h
 exact ⟨h.1, h.2.1⟩
end Go.Proofs.Ytnlmlkbaflmgcaa
