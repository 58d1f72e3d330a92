/-
  What a process does in a state, with room everywhere; traces, tick by tick.
-/
import Derived.Test.YtckgpflobhpnpaaGreatQStE
namespace Go.Proofs.YtckgpflobhpnpaaGreat
open Go.RowKit
set_option linter.unusedVariables false
set_option linter.unusedSimpArgs false
def Ju (c : Ci) : Prop := ∀ p, p < c.procs.length → 1 ≤ (a8 c p).puts.length ∧ (a8 c p).puts.length ≤ 2
def bN (c : Ci) (s : Ns) (k : Nat) : Fi := aI (a8 c k) (xJ s k) (en c s k) (Eb c k)
section
variable {c : Ci} {s : Ns} {u v : Uf} {p n k i : Nat} {inp : List (List Int)} {cls : List ByteArray} {w : Nat → Bool}
theorem IE (hc : aZ c) (hp : p < c.procs.length) (hcan : fq c s p = true) : bN c s p = ae c s p := by
 rw [pH] at hcan
 unfold bN ae
 refine jW (hc.pr p hp) hcan (fun j hj hh => rfl) (fun j hj _ => ?_)
 unfold Eb
 rw [d6 _ _ (by rw [List.length_replicate]; exact hj), List.getElem_replicate]
theorem qY (hc : aZ c) (n : Nat) : ∀ {l : List Nat} {u : Uf}, dW c u l → ((bc c u l).l n).length ≤ (u.l n).length + l.length
 | [], u, _ => Nat.le_refl _
 | p :: r, u, h => by
  refine Nat.le_trans (qY hc n (l := r) h.2.2) ?_
  have := zF (f := fc c u p) (n := n) hc h.1
  show (u.l n ++ gg c p (fc c u p) n).length + r.length ≤ _ + (r.length + 1)
  rw [List.length_append]; omega
theorem C4 (c : Ci) (s : Ns) (w : Nat → Bool) (P : Nat) : (gW c s w P).length ≤ P := by
 unfold gW
 exact Nat.le_trans (List.length_filter_le _ _) (by simp)
theorem C5 (c : Ci) : ∀ (l : List (Nat → Bool)) (s : Ns), (eF c s l).length ≤ l.length * c.procs.length
 | [], s => by simp [eF]
 | w :: r, s => by
  have h1 := C4 c s w c.procs.length
  have h2 := C5 c r (bv c s w)
  rw [eF, List.length_append, List.length_cons, Nat.succ_mul]; omega
theorem zH : ∀ {l m : List (Nat → Bool)} {s : Ns}, vy c s (l ++ m) = vy c (vy c s l) m
 | [], _, _ => rfl
 | w :: r, m, s => by rw [List.cons_append, vy, vy, zH (l := r)]
def Hp (c : Ci) (inp : List (List Int)) (cls : List ByteArray) (i : Nat) : Ns := vy c (Eg c inp) ((cls.map (a6 c)).take i)
def GS (c : Ci) (inp : List (List Int)) (cls : List ByteArray) (i : Nat) : Uf := bc c (u0 c inp) (eF c (Eg c inp) ((cls.map (a6 c)).take i))
theorem C6 (hi : i < cls.length) : (cls.map (a6 c)).take (i + 1) = (cls.map (a6 c)).take i ++ [a6 c (cls.getD i .empty)] := by
 rw [List.take_add_one, List.getElem?_map, List.getElem?_eq_getElem hi, List.getD_eq_getElem?_getD, List.getElem?_eq_getElem hi]; rfl
theorem GT (hi : i < cls.length) : Hp c inp cls (i + 1) = bv c (Hp c inp cls i) (a6 c (cls.getD i .empty)) := by
 unfold Hp; rw [C6 hi, zH]; rfl
theorem GU (hi : i < cls.length) : GS c inp cls (i + 1) = bc c (GS c inp cls i) (gW c (Hp c inp cls i) (a6 c (cls.getD i .empty)) c.procs.length) := by
 unfold GS; rw [C6 hi, CM, gE]
 show bc c _ (eF c (Hp c inp cls i) [_]) = _
 rw [eF, eF, List.append_nil]
theorem tL (hi : cls.length ≤ i) : GS c inp cls i = pQ c inp cls := by
 unfold GS pQ; rw [List.take_of_length_le (by simpa using hi)]
theorem GV (hc : aZ c) (h : lJ c inp) : dW c (u0 c inp) (eF c (Eg c inp) ((cls.map (a6 c)).take i)) ∧ NU c (Hp c inp cls i) (GS c inp cls i) ∧ ja c (Hp c inp cls i) ∧ ∀ q, (GS c inp cls i).cnt q ≤ i := by
 obtain ⟨a, b, d, e⟩ := Gq hc (l := (cls.map (a6 c)).take i) (CU hc h) (Gx c (inp := inp))
 refine ⟨a, b, d, fun q => ?_⟩
 unfold GS
 rw [ft]
 have := e q
 rw [List.length_take] at this
 show 0 + _ ≤ _
 omega
theorem Bl (hc : aZ c) (h : lJ c inp) (hi : i ≤ 100) (n : Nat) : ((GS c inp cls i).l n).length ≤ 11000 := by
 have h1 := qY hc n (GV (cls := cls) (i := i) hc h).1
 have h2 := C5 c ((cls.map (a6 c)).take i) (Eg c inp)
 have h3 := h.sm n
 have h4 := hc.nl
 have h5 : ((cls.map (a6 c)).take i).length ≤ 100 := by rw [List.length_take]; omega
 have h6 : ((cls.map (a6 c)).take i).length * c.procs.length ≤ 100 * 100 := Nat.mul_le_mul h5 h4
 have h7 : ((u0 c inp).l n).length ≤ 1000 := h3
 unfold GS
 omega
theorem Ml (hc : aZ c) (h : lJ c inp) (hi : i ≤ 100) : MS (Hp c inp cls i) 11000 := fun n => by
 obtain ⟨_, b, d, _⟩ := GV (cls := cls) (i := i) hc h
 by_cases hn : n < c.chans.length
 ·rw [b.wd n hn, List.length_drop]; have := Bl (cls := cls) hc h hi n; omega
 ·show ((Hp c inp cls i).chans.getD n []).length ≤ _
  rw [List.getD_eq_getElem?_getD, List.getElem?_eq_none (by have := d.cl; omega)]; simp
def Ez (c : Ci) (s : Ns) (u : Uf) (w : Nat → Bool) (k : Nat) : Uf := bc c u (gW c s w k)
theorem zI (k : Nat) : gW c s w (k + 1) = gW c s w k ++ (if ay c s w k = true then [k] else []) := by
 unfold gW
 rw [List.range_succ, List.filter_append]
 split
 ·rename_i hf; rw [List.filter_cons_of_pos hf, List.filter_nil]
 ·rename_i hf; rw [List.filter_cons_of_neg hf, List.filter_nil]
theorem IG (h : ay c s w k = true) : Ez c s u w (k + 1) = ak c (Ez c s u w k) k := by
 unfold Ez; rw [zI, if_pos h, gE]; rfl
theorem KS (h : ay c s w k = false) : Ez c s u w (k + 1) = Ez c s u w k := by
 unfold Ez; rw [zI, if_neg (by rw [h]; simp), List.append_nil]
theorem KT (hc : aZ c) (hs : ja c s) (hn : NU c s u) (hk : k < c.procs.length) (h : ay c s w k = true) : fc c (Ez c s u w k) k = bN c s k := by
 rw [IE hc hk (gd h).2]
 exact (tD hc hs hn w _ (Nat.le_refl _)).2.2 k hk h
theorem IH (hc : aZ c) (hs : ja c s) (hn : NU c s u) (hk : k ≤ c.procs.length) (n : Nat) : ((Ez c s u w k).l n).length ≤ (u.l n).length + 100 := by
 have h1 := qY hc n (tD hc hs hn w k hk).1
 have h2 := C4 c s w k
 have h3 := hc.nl
 unfold Ez; omega
theorem II (q : Nat) : (Ez c s u w k).cnt q ≤ u.cnt q + 1 := by
 unfold Ez
 rw [ft, nC]
 split <;> omega
theorem GW (n : Nat) (hl : inp.length = c.chans.length) : bR c (u0 c inp) = inp := by
 refine dQ (d := []) (by rw [ap, hl]) (fun i hi => ?_)
 rw [ap] at hi
 rw [az hi]; rfl
theorem GX : da c (u0 c inp) = List.replicate c.procs.length 0 := by
 refine dQ (d := (0 : Int)) (by rw [ap, List.length_replicate]) (fun i hi => ?_)
 rw [ap] at hi
 rw [az hi, cI]; rfl
theorem Mn : jH c (u0 c inp) = List.replicate c.chans.length 0 := by
 refine dQ (d := (0 : Int)) (by rw [ap, List.length_replicate]) (fun i hi => ?_)
 rw [ap] at hi
 rw [az hi, cI]; rfl
theorem yb (hk : k < c.procs.length) : (da c v).getD k 0 = (v.cnt k : Int) := az hk
theorem GY (hk : k < c.chans.length) : (jH c v).getD k 0 = (v.rd k : Int) := az hk
end
end Go.Proofs.YtckgpflobhpnpaaGreat
