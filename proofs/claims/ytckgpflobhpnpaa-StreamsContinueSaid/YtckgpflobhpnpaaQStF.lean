/-
  What a process does in a state, with room everywhere; traces, tick by tick.
-/
import Derived.Test.YtckgpflobhpnpaaQStE
namespace Go.Proofs.Ytckgpflobhpnpaa
open Go.RowKit
set_option linter.unusedVariables false
set_option linter.unusedSimpArgs false
def IH (c : Ci) : Prop := ∀ p, p < c.procs.length → 1 ≤ (be c p).puts.length ∧ (be c p).puts.length ≤ 2
def bN (c : Ci) (s : Ns) (k : Nat) : Fi := aL (be c k) (AZ s k) (ge c s k) (Gi c k)
section
variable {c : Ci} {s : Ns} {u v : Uf} {p n k i : Nat} {inp : List (List Int)} {cls : List ByteArray} {w : Nat → Bool}
theorem II (hc : a6 c) (hp : p < c.procs.length) (hcan : gf c s p = true) : bN c s p = af c s p := by
 rw [rX] at hcan
 unfold bN af
 refine jU (hc.pr p hp) hcan (fun j hj hh => rfl) (fun j hj _ => ?_)
 unfold Gi
 rw [d9 _ _ (by rw [List.length_replicate]; exact hj), List.getElem_replicate]
theorem rb (hc : a6 c) (n : Nat) : ∀ {l : List Nat} {u : Uf}, hU c u l → ((bP c u l).l n).length ≤ (u.l n).length + l.length
 | [], u, _ => Nat.le_refl _
 | p :: r, u, h => by
  refine Nat.le_trans (rb hc n (l := r) h.2.2) ?_
  have := zJ (f := ew c u p) (n := n) hc h.1
  show (u.l n ++ fq c p (ew c u p) n).length + r.length ≤ _ + (r.length + 1)
  rw [List.length_append]; omega
theorem Dd (c : Ci) (s : Ns) (w : Nat → Bool) (P : Nat) : (jz c s w P).length ≤ P := by
 unfold jz
 exact Nat.le_trans (List.length_filter_le _ _) (by simp)
theorem De (c : Ci) : ∀ (l : List (Nat → Bool)) (s : Ns), (ft c s l).length ≤ l.length * c.procs.length
 | [], s => by simp [ft]
 | w :: r, s => by
  have h1 := Dd c s w c.procs.length
  have h2 := De c r (bz c s w)
  rw [ft, List.length_append, List.length_cons, Nat.succ_mul]; omega
theorem zL : ∀ {l m : List (Nat → Bool)} {s : Ns}, u5 c s (l ++ m) = u5 c (u5 c s l) m
 | [], _, _ => rfl
 | w :: r, m, s => by rw [List.cons_append, u5, u5, zL (l := r)]
def Hr (c : Ci) (inp : List (List Int)) (cls : List ByteArray) (i : Nat) : Ns := u5 c (C4 c inp) ((cls.map (bc c)).take i)
def GR (c : Ci) (inp : List (List Int)) (cls : List ByteArray) (i : Nat) : Uf := bP c (u0 c inp) (ft c (C4 c inp) ((cls.map (bc c)).take i))
theorem Df (hi : i < cls.length) : (cls.map (bc c)).take (i + 1) = (cls.map (bc c)).take i ++ [bc c (cls.getD i .empty)] := by
 rw [List.take_add_one, List.getElem?_map, List.getElem?_eq_getElem hi, List.getD_eq_getElem?_getD, List.getElem?_eq_getElem hi]; rfl
theorem GS (hi : i < cls.length) : Hr c inp cls (i + 1) = bz c (Hr c inp cls i) (bc c (cls.getD i .empty)) := by
 unfold Hr; rw [Df hi, zL]; rfl
theorem GT (hi : i < cls.length) : GR c inp cls (i + 1) = bP c (GR c inp cls i) (jz c (Hr c inp cls i) (bc c (cls.getD i .empty)) c.procs.length) := by
 unfold GR; rw [Df hi, xZ, iM]
 show bP c _ (ft c (Hr c inp cls i) [_]) = _
 rw [ft, ft, List.append_nil]
theorem tL (hi : cls.length ≤ i) : GR c inp cls i = qZ c inp cls := by
 unfold GR qZ; rw [List.take_of_length_le (by simpa using hi)]
theorem GU (hc : a6 c) (h : fT c inp) : hU c (u0 c inp) (ft c (C4 c inp) ((cls.map (bc c)).take i)) ∧ NU c (Hr c inp cls i) (GR c inp cls i) ∧ jS c (Hr c inp cls i) ∧ ∀ q, (GR c inp cls i).cnt q ≤ i := by
 obtain ⟨a, b, d, e⟩ := Bi hc (l := (cls.map (bc c)).take i) (Gv hc h) (Ju c (inp := inp))
 refine ⟨a, b, d, fun q => ?_⟩
 unfold GR
 rw [dY]
 have := e q
 rw [List.length_take] at this
 show 0 + _ ≤ _
 omega
theorem Bs (hc : a6 c) (h : fT c inp) (hi : i ≤ 100) (n : Nat) : ((GR c inp cls i).l n).length ≤ 11000 := by
 have h1 := rb hc n (GU (cls := cls) (i := i) hc h).1
 have h2 := De c ((cls.map (bc c)).take i) (C4 c inp)
 have h3 := h.sm n
 have h4 := hc.nl
 have h5 : ((cls.map (bc c)).take i).length ≤ 100 := by rw [List.length_take]; omega
 have h6 : ((cls.map (bc c)).take i).length * c.procs.length ≤ 100 * 100 := Nat.mul_le_mul h5 h4
 have h7 : ((u0 c inp).l n).length ≤ 1000 := h3
 unfold GR
 omega
theorem L2 (hc : a6 c) (h : fT c inp) (hi : i ≤ 100) : Mz (Hr c inp cls i) 11000 := fun n => by
 obtain ⟨_, b, d, _⟩ := GU (cls := cls) (i := i) hc h
 by_cases hn : n < c.chans.length
 ·rw [b.wd n hn, List.length_drop]; have := Bs (cls := cls) hc h hi n; omega
 ·show ((Hr c inp cls i).chans.getD n []).length ≤ _
  rw [List.getD_eq_getElem?_getD, List.getElem?_eq_none (by have := d.cl; omega)]; simp
def EC (c : Ci) (s : Ns) (u : Uf) (w : Nat → Bool) (k : Nat) : Uf := bP c u (jz c s w k)
theorem zM (k : Nat) : jz c s w (k + 1) = jz c s w k ++ (if aA c s w k = true then [k] else []) := by
 unfold jz
 rw [List.range_succ, List.filter_append]
 split
 ·rename_i hf; rw [List.filter_cons_of_pos hf, List.filter_nil]
 ·rename_i hf; rw [List.filter_cons_of_neg hf, List.filter_nil]
theorem IJ (h : aA c s w k = true) : EC c s u w (k + 1) = am c (EC c s u w k) k := by
 unfold EC; rw [zM, if_pos h, iM]; rfl
theorem KH (h : aA c s w k = false) : EC c s u w (k + 1) = EC c s u w k := by
 unfold EC; rw [zM, if_neg (by rw [h]; simp), List.append_nil]
theorem KI (hc : a6 c) (hs : jS c s) (hn : NU c s u) (hk : k < c.procs.length) (h : aA c s w k = true) : ew c (EC c s u w k) k = bN c s k := by
 rw [II hc hk (im h).2]
 exact (tD hc hs hn w _ (Nat.le_refl _)).2.2 k hk h
theorem IK (hc : a6 c) (hs : jS c s) (hn : NU c s u) (hk : k ≤ c.procs.length) (n : Nat) : ((EC c s u w k).l n).length ≤ (u.l n).length + 100 := by
 have h1 := rb hc n (tD hc hs hn w k hk).1
 have h2 := Dd c s w k
 have h3 := hc.nl
 unfold EC; omega
theorem IL (q : Nat) : (EC c s u w k).cnt q ≤ u.cnt q + 1 := by
 unfold EC
 rw [dY, wO]
 split <;> omega
theorem GV (n : Nat) (hl : inp.length = c.chans.length) : bS c (u0 c inp) = inp := by
 refine dR (d := []) (by rw [ap, hl]) (fun i hi => ?_)
 rw [ap] at hi
 rw [aB hi]; rfl
theorem GW : dc c (u0 c inp) = List.replicate c.procs.length 0 := by
 refine dR (d := (0 : Int)) (by rw [ap, List.length_replicate]) (fun i hi => ?_)
 rw [ap] at hi
 rw [aB hi, cI]; rfl
theorem L3 : jE c (u0 c inp) = List.replicate c.chans.length 0 := by
 refine dR (d := (0 : Int)) (by rw [ap, List.length_replicate]) (fun i hi => ?_)
 rw [ap] at hi
 rw [aB hi, cI]; rfl
theorem ye (hk : k < c.procs.length) : (dc c v).getD k 0 = (v.cnt k : Int) := aB hk
theorem GX (hk : k < c.chans.length) : (jE c v).getD k 0 = (v.rd k : Int) := aB hk
end
end Go.Proofs.Ytckgpflobhpnpaa
