/-
  The streams of a circuit; greater capacities, longer inputs.
-/
import Derived.Test.YtckgpflobhpnpaaGreatQStB
import Derived.Test.YtckgpflobhpnpaaGreatQNeQ
namespace Go.Proofs.YtckgpflobhpnpaaGreat
open Go.RowKit
set_option linter.unusedVariables false
set_option linter.unusedSimpArgs false
def gF (n : Nat) (cnt : Nat → Nat) : Nat → Nat
 | 0 => 0
 | P + 1 => gF n cnt P + (n - cnt P)
theorem qU {n p : Nat} {cnt : Nat → Nat} (h : cnt p < n) : ∀ P, gF n (fun q => if q = p then cnt q + 1 else cnt q) P + (if p < P then 1 else 0) = gF n cnt P
 | 0 => rfl
 | P + 1 => by
  have ih := qU (p := p) h P
  rw [gF, gF]
  by_cases e : P = p
  ·subst e
   rw [if_neg (Nat.lt_irrefl _)] at ih
   rw [if_pos (Nat.lt_succ_self _)]
   simp only [if_true]
   omega
  ·simp only [if_neg e]
   by_cases g : p < P
   ·rw [if_pos g] at ih; rw [if_pos (by omega)]; omega
   ·rw [if_neg g] at ih; rw [if_neg (by omega)]; omega
theorem Be (n : Nat) (cnt : Nat → Nat) : ∀ P, gF n cnt P ≤ n * P
 | 0 => Nat.le_refl _
 | P + 1 => by have := Be n cnt P; rw [gF, Nat.mul_succ]; omega
def CT (c : Ci) (n : Nat) (u : Uf) : Option Nat := (List.range c.procs.length).find? (fun p => gV c u p && decide (u.cnt p < n))
def Ho (c : Ci) (n : Nat) : Nat → Uf → List Nat
 | 0, _ => []
 | k + 1, u => match CT c n u with
  | some p => p :: Ho c n k (ak c u p)
  | none => []
section
variable {c : Ci} {u v : Uf} {p n : Nat}
theorem Ed (h : CT c n u = some p) : p < c.procs.length ∧ gV c u p = true ∧ u.cnt p < n := by
 have h1 := List.mem_of_find?_eq_some h
 have h2 := List.find?_some h
 rw [Bool.and_eq_true, decide_eq_true_eq] at h2
 exact ⟨List.mem_range.1 h1, h2.1, h2.2⟩
theorem Ee (h : CT c n u = none) : ∀ p, p < c.procs.length → gV c u p = true → n ≤ u.cnt p := by
 intro p hp hcan
 have := List.find?_eq_none.1 h p (List.mem_range.2 hp)
 rw [hcan, Bool.true_and, decide_eq_true_eq] at this
 omega
theorem Jp : ∀ (k : Nat) (u : Uf), gF n u.cnt c.procs.length ≤ k → dW c u (Ho c n k u) ∧ (∀ q, u.cnt q ≤ n → (bc c u (Ho c n k u)).cnt q ≤ n) ∧ ∀ p, p < c.procs.length → gV c (bc c u (Ho c n k u)) p = true → n ≤ (bc c u (Ho c n k u)).cnt p
 | 0, u, h => by
  refine ⟨trivial, fun q hq => hq, fun p hp _ => ?_⟩
  refine Nat.not_lt.1 fun hlt => ?_
  have hlt2 : u.cnt p < n := hlt
  have := qU hlt2 c.procs.length
  rw [if_pos hp] at this
  omega
 | k + 1, u, h => by
  rw [Ho]
  cases hk : CT c n u with
  | none => exact ⟨trivial, fun q hq => hq, Ee hk⟩
  | some p =>
   obtain ⟨h1, h2, h3⟩ := Ed hk
   have hr := qU h3 c.procs.length
   rw [if_pos h1] at hr
   obtain ⟨a, b, d⟩ := Jp k (ak c u p) (by show gF n (fun q => if q = p then u.cnt q + 1 else u.cnt q) c.procs.length ≤ k; omega)
   refine ⟨⟨h1, h2, a⟩, fun q hq => b q ?_, d⟩
   show (if q = p then u.cnt q + 1 else u.cnt q) ≤ n
   split
   ·rename_i e; rw [e]; omega
   ·exact hq
def u0 (c : Ci) (inp : List (List Int)) : Uf := ⟨fun p => if p < c.procs.length then aP (a8 c p) else bS, fun n => inp.getD n [], fun _ => 0, fun _ => 0⟩
def Ef (c : Ci) (inp : List (List Int)) (n : Nat) : List Nat := Ho c n (n * c.procs.length) (u0 c inp)
def dA (c : Ci) (inp : List (List Int)) (n : Nat) : Uf := bc c (u0 c inp) (Ef c inp n)
theorem Gw (c : Ci) (inp : List (List Int)) (n : Nat) : Ma c n (u0 c inp) (Ef c inp n) := by
 obtain ⟨a, b, d⟩ := Jp (c := c) (n := n) (n * c.procs.length) (u0 c inp) (Be _ _ _)
 have hc : ∀ q, (bc c (u0 c inp) (Ef c inp n)).cnt q = (Ef c inp n).count q := fun q => by rw [ft]; show 0 + _ = _; omega
 exact ⟨a, fun q => by rw [← hc]; exact b q (Nat.zero_le _), fun p hp hcan => by rw [← hc]; exact d p hp hcan⟩
theorem KH (hc : aZ c) {inp : List (List Int)} {l : List Nat} (h : Ma c n (u0 c inp) l) : bc c (u0 c inp) l = dA c inp n := (Mb hc h (Gw c inp n)).1
structure lJ (c : Ci) (inp : List (List Int)) : Prop where
 l : inp.length = c.chans.length
 ex : ∀ n, n < c.chans.length → (cr c n).frm ≠ -1 → inp.getD n [] = []
 fv : ∀ n, n < c.chans.length → ∀ i, i < (inp.getD n []).length → dn ((inp.getD n []).getD i 0) (cr c n).w
 sm : ∀ n, (inp.getD n []).length ≤ 1000
def Eg (c : Ci) (inp : List (List Int)) : Ns := ⟨(ge c).procs, inp⟩
theorem CU (hc : aZ c) {inp : List (List Int)} (h : lJ c inp) : ja c (Eg c inp) := by
 have h0 := Gv hc
 refine ⟨h0.pl, h.l, h0.pv, h.fv, fun n hn hf hd => ?_⟩
 show ((inp.getD n []).length : Int) ≤ _
 rw [h.ex n hn (by omega)]
 exact hc.cp n hn
theorem Gx (c : Ci) {inp : List (List Int)} : NU c (Eg c inp) (u0 c inp) := by
 refine ⟨fun p hp => ?_, fun n hn => rfl, fun n hn => Nat.zero_le _⟩
 show (ge c).procs.getD p bS = if p < c.procs.length then aP (a8 c p) else bS
 rw [if_pos hp]
 exact az hp
theorem wK (hc : aZ c) : ∀ {r : List Nat} {u : Uf}, dW c u r → r.count p = 0 → (bc c u r).s p = u.s p ∧ (∀ n, (cr c n).dst = p → (bc c u r).rd n = u.rd n) ∧ ∀ n, (cr c n).frm = p → (bc c u r).l n = u.l n
 | [], u, _, _ => ⟨rfl, fun _ _ => rfl, fun _ _ => rfl⟩
 | q :: r, u, ⟨hq, hcan, hr⟩, h => by
  have hne : q ≠ p := by
   intro e
   rw [List.count_cons, e] at h
   simp at h
  have h2 : r.count p = 0 := by
   rw [List.count_cons] at h
   omega
  obtain ⟨a, b, d⟩ := wK hc hr h2
  refine ⟨?_, fun n hn => ?_, fun n hn => ?_⟩
  ·rw [bc, a]; exact if_neg (Ne.symm hne)
  ·rw [bc, b n hn]
   show u.rd n + ie c q _ n = _
   by_cases h0 : ie c q (fc c u q) n = 0
   ·rw [h0]; rfl
   ·have := zw hc hq h0
    rw [hn] at this; omega
  ·rw [bc, d n hn]
   show u.l n ++ gg c q _ n = _
   by_cases h0 : gg c q (fc c u q) n = []
   ·rw [h0, List.append_nil]
   ·have := qQ hc hq h0
    rw [hn] at this; omega
theorem CV (n : Nat) : ∀ {r : List Nat} {u : Uf}, u.rd n ≤ (bc c u r).rd n
 | [], _ => Nat.le_refl _
 | q :: r, u => by
  have := CV n (r := r) (u := ak c u q)
  have h2 : u.rd n ≤ (ak c u q).rd n := Nat.le_add_right _ _
  rw [bc]; omega
theorem Md (hc : aZ c) {l m : List Nat} (hl : dW c u l) (hm : dW c u m) (h : ∀ p, l.count p ≤ m.count p) : ∃ r, dW c (bc c u l) r ∧ bc c (bc c u l) r = bc c u m ∧ ∀ p, r.count p = m.count p - l.count p := by
 obtain ⟨l', m', a1, a2, a3, a4, a5⟩ := NL hc hl hm
 have hnil : l' = [] := qR fun x => by have := h x; rw [a5]; omega
 subst hnil
 exact ⟨m', a1, a3, a4⟩
structure Jq (c d : Ci) : Prop where
 pr : d.procs = c.procs
 cl : d.chans.length = c.chans.length
 ch : ∀ n, n < c.chans.length → (cr d n).dst = (cr c n).dst ∧ (cr d n).frm = (cr c n).frm ∧ (cr c n).cap ≤ (cr d n).cap
theorem x6 {d : Ci} (h : Jq c d) (p : Nat) : a8 d p = a8 c p := by unfold a8; rw [h.pr]
theorem Gy {d : Ci} (h : Jq c d) (u : Uf) (p : Nat) : fc d u p = fc c u p := by
 unfold fc uZ Jn Eb
 rw [x6 h p]
theorem zE {d : Ci} (h : Jq c d) (u : Uf) (p : Nat) : ak d u p = ak c u p := by
 unfold ak ie gg
 rw [Gy h, x6 h]
theorem nI {d : Ci} (h : Jq c d) : ∀ {l : List Nat} {u : Uf}, bc d u l = bc c u l
 | [], _ => rfl
 | p :: r, u => by rw [bc, bc, zE h, nI h (l := r)]
theorem CW {d : Ci} (h : Jq c d) : ∀ {l : List Nat} {u : Uf}, dW d u l ↔ dW c u l
 | [], _ => Iff.rfl
 | p :: r, u => by
  show (p < d.procs.length ∧ gV d u p = true ∧ dW d (ak d u p) r) ↔ (p < c.procs.length ∧ gV c u p = true ∧ dW c (ak c u p) r)
  rw [zE h, CW h (l := r), h.pr]
  unfold gV
  rw [Gy h]
theorem Iy {d : Ci} {s t : Ns} {x : Uf} {l m : List Nat} (hc : aZ c) (h : Jq c d) (hs : NU c s (bc c x l)) (ht : NU d t (bc c x m)) (hl : dW c x l) (hm : dW c x m) (hle : ∀ p, l.count p ≤ m.count p) (hp : p < c.procs.length) (heq : l.count p = m.count p) (hcan : fq c s p = true) : fq d t p = true := by
 obtain ⟨r, a1, a2, a3⟩ := Md hc hl hm hle
 obtain ⟨k1, k2, k3⟩ := wK hc a1 (p := p) (by rw [a3]; omega)
 rw [a2] at k1 k2 k3
 have hpd : p < d.procs.length := by rw [h.pr]; exact hp
 rw [pH] at hcan ⊢
 have hdp := x6 h p
 rw [hdp]
 have hst : xJ t p = xJ s p := by rw [ht.ps p hpd, hs.ps p hp, k1]
 rw [hst]
 have hmore : aI (a8 c p) (xJ s p) (en d t p) (ms d t p) = aI (a8 c p) (xJ s p) (en c s p) (ms c s p) := by
  refine jW (hc.pr p hp) hcan (fun j hj hh => ?_) (fun j hj hr => ?_)
  ·have hn := F2 hc hp hj
   have hd : (cr c (jG (a8 c p) j)).dst = p := (hc.tk p hp j hj).2.2.2
   unfold en at hh ⊢
   rw [az hj] at hh ⊢
   rw [hdp, az hj]
   unfold cA at hh ⊢
   rw [hdp, ht.wd _ (by rw [h.cl]; exact hn), k2 _ hd]
   rw [hs.wd _ hn] at hh ⊢
   have hpre := u2 (c := c) (jG (a8 c p) j) (l := r) (u := bc c x l)
   rw [a2] at hpre
   obtain ⟨z, hz⟩ := hpre
   rw [← hz]
   split at hh
   ·rename_i hlt
    rw [List.length_drop] at hlt
    have e2 : 0 < (((bc c x l).l (jG (a8 c p) j)).drop ((bc c x l).rd (jG (a8 c p) j))).length := by rw [List.length_drop]; exact hlt
    have e1 : 0 < (((bc c x l).l (jG (a8 c p) j) ++ z).drop ((bc c x l).rd (jG (a8 c p) j))).length := by rw [List.length_drop, List.length_append]; omega
    rw [if_pos e1, if_pos e2, nw, nw, mA, if_pos (by omega)]
   ·cases hh
  ·have hn := Jk hc hp hj
   have hf : (cr c (tz (a8 c p) j)).frm = p := (hc.pt p hp j hj).2.2.2
   unfold ms at hr ⊢
   rw [az hj] at hr
   rw [hdp, az hj]
   unfold cJ at hr ⊢
   obtain ⟨q1, q2, q3⟩ := h.ch _ hn
   rw [hdp, q1, ht.wd _ (by rw [h.cl]; exact hn), k3 _ hf]
   rw [hs.wd _ hn] at hr
   rw [Bool.or_eq_true, decide_eq_true_eq, decide_eq_true_eq] at hr ⊢
   rcases hr with hr | hr
   ·exact .inl hr
   ·refine .inr ?_
    have hrd := CV (c := c) (tz (a8 c p) j) (r := r) (u := bc c x l)
    rw [a2] at hrd
    rw [List.length_drop] at hr ⊢
    omega
 rw [← iJ, hmore, iJ]
 exact hcan
theorem Iz {d : Ci} (hc : aZ c) (hd : aZ d) (h : Jq c d) {x : Uf} (cls : List ByteArray) (hclk : ∀ cl q, a6 d cl q = a6 c cl q) : ∀ {l m : List Nat} {s t : Ns}, ja c s → ja d t → NU c s (bc c x l) → NU d t (bc c x m) → dW c x l → dW c x m → (∀ p, l.count p ≤ m.count p) →
  dW c x (l ++ eF c s (cls.map (a6 c))) ∧ dW c x (m ++ eF d t (cls.map (a6 d))) ∧ ∀ p, (l ++ eF c s (cls.map (a6 c))).count p ≤ (m ++ eF d t (cls.map (a6 d))).count p := by
 induction cls with
 | nil => intro l m s t _ _ _ _ hl hm hle; simp only [List.map_nil, eF, List.append_nil]; exact ⟨hl, hm, hle⟩
 | cons a r ih =>
  intro l m s t hs ht hu hv hl hm hle
  obtain ⟨a1, a2⟩ := xV hc hs hu (a6 c a)
  have hv' : NU d t (bc d x m) := by rw [nI h]; exact hv
  obtain ⟨b1, b2⟩ := xV hd ht hv' (a6 d a)
  have b1' : dW c (bc c x m) (gW d t (a6 d a) d.procs.length) := by rw [nI h] at b1; exact (CW h).1 b1
  have b2' : NU d (bv d t (a6 d a)) (bc c x (m ++ gW d t (a6 d a) d.procs.length)) := by rw [gE, ← nI h, ← nI h]; exact b2
  have hl' := j6 hl a1
  have hm' := j6 hm b1'
  have := ih (l := l ++ gW c s (a6 c a) c.procs.length) (m := m ++ gW d t (a6 d a) d.procs.length) (AV hc hs _) (AV hd ht _) (by rw [gE]; exact a2) b2' hl' hm' (fun p => by
   rw [List.count_append, List.count_append, nC, nC]
   have hlp := hle p
   by_cases hf : p < c.procs.length ∧ ay c s (a6 c a) p = true
   ·rw [if_pos hf]
    rcases Nat.lt_or_ge (l.count p) (m.count p) with hlt | hge
    ·split <;> omega
    ·obtain ⟨hw, hcan⟩ := gd hf.2
     have hcd := Iy hc h hu hv hl hm hle hf.1 (by omega) hcan
     rw [if_pos ⟨by rw [h.pr]; exact hf.1, by unfold ay; rw [hclk, hw, hcd]; rfl⟩]
     omega
   ·rw [if_neg hf]; omega)
  simp only [List.map_cons, eF]
  rw [← List.append_assoc, ← List.append_assoc]
  exact this
end
end Go.Proofs.YtckgpflobhpnpaaGreat
