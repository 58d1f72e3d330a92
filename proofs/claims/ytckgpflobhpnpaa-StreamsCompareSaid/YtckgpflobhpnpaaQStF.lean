/-
  What a process does in a state, with room everywhere; traces, tick by tick.
-/
import Derived.Test.YtckgpflobhpnpaaQStE
namespace Go.Proofs.Ytckgpflobhpnpaa
open Go.RowKit
set_option linter.unusedVariables false
set_option linter.unusedSimpArgs false
def HB (c : Ci) : Prop := ∀ p, p < c.procs.length → 1 ≤ (a6 c p).puts.length ∧ (a6 c p).puts.length ≤ 2
def bD (c : Ci) (s : Ns) (k : Nat) : Fi := aG (a6 c k) (yH s k) (fB c s k) (Dt c k)
section
variable {c : Ci} {s : Ns} {u v : Uf} {p n k i : Nat} {inp : List (List Int)} {cls : List ByteArray} {w : Nat → Bool}
theorem FA (hc : a8 c) (hp : p < c.procs.length) (hcan : fC c s p = true) : bD c s p = ac c s p := by
 rw [qs] at hcan
 unfold bD ac
 refine mt (hc.pr p hp) hcan (fun j hj hh => rfl) (fun j hj _ => ?_)
 unfold Dt
 rw [eE _ _ (by rw [List.length_replicate]; exact hj), List.getElem_replicate]
theorem pK (hc : a8 c) (n : Nat) : ∀ {l : List Nat} {u : Uf}, jz c u l → ((bX c u l).l n).length ≤ (u.l n).length + l.length
 | [], u, _ => Nat.le_refl _
 | p :: r, u, h => by
  refine Nat.le_trans (pK hc n (l := r) h.2.2) ?_
  have := xB (f := fk c u p) (n := n) hc h.1
  show (u.l n ++ gG c p (fk c u p) n).length + r.length ≤ _ + (r.length + 1)
  rw [List.length_append]; omega
theorem AF (c : Ci) (s : Ns) (w : Nat → Bool) (P : Nat) : (ja c s w P).length ≤ P := by
 unfold ja
 exact Nat.le_trans (List.length_filter_le _ _) (by simp)
theorem AH (c : Ci) : ∀ (l : List (Nat → Bool)) (s : Ns), (gk c s l).length ≤ l.length * c.procs.length
 | [], s => by simp [gk]
 | w :: r, s => by
  have h1 := AF c s w c.procs.length
  have h2 := AH c r (bp c s w)
  rw [gk, List.length_append, List.length_cons, Nat.succ_mul]; omega
theorem xD : ∀ {l m : List (Nat → Bool)} {s : Ns}, tG c s (l ++ m) = tG c (tG c s l) m
 | [], _, _ => rfl
 | w :: r, m, s => by rw [List.cons_append, tG, tG, xD (l := r)]
def Ei (c : Ci) (inp : List (List Int)) (cls : List ByteArray) (i : Nat) : Ns := tG c (Eh c inp) ((cls.map (ba c)).take i)
def DT (c : Ci) (inp : List (List Int)) (cls : List ByteArray) (i : Nat) : Uf := bX c (u0 c inp) (gk c (Eh c inp) ((cls.map (ba c)).take i))
theorem AI (hi : i < cls.length) : (cls.map (ba c)).take (i + 1) = (cls.map (ba c)).take i ++ [ba c (cls.getD i .empty)] := by
 rw [List.take_add_one, List.getElem?_map, List.getElem?_eq_getElem hi, List.getD_eq_getElem?_getD, List.getElem?_eq_getElem hi]; rfl
theorem DU (hi : i < cls.length) : Ei c inp cls (i + 1) = bp c (Ei c inp cls i) (ba c (cls.getD i .empty)) := by
 unfold Ei; rw [AI hi, xD]; rfl
theorem DV (hi : i < cls.length) : DT c inp cls (i + 1) = bX c (DT c inp cls i) (ja c (Ei c inp cls i) (ba c (cls.getD i .empty)) c.procs.length) := by
 unfold DT; rw [AI hi, Ax, jA]
 show bX c _ (gk c (Ei c inp cls i) [_]) = _
 rw [gk, gk, List.append_nil]
theorem rX (hi : cls.length ≤ i) : DT c inp cls i = y2 c inp cls := by
 unfold DT y2; rw [List.take_of_length_le (by simpa using hi)]
theorem DW (hc : a8 c) (h : tc c inp) : jz c (u0 c inp) (gk c (Eh c inp) ((cls.map (ba c)).take i)) ∧ NU c (Ei c inp cls i) (DT c inp cls i) ∧ jt c (Ei c inp cls i) ∧ ∀ q, (DT c inp cls i).cnt q ≤ i := by
 obtain ⟨a, b, d, e⟩ := DB hc (l := (cls.map (ba c)).take i) (F9 hc h) (Ir c (inp := inp))
 refine ⟨a, b, d, fun q => ?_⟩
 unfold DT
 rw [f6]
 have := e q
 rw [List.length_take] at this
 show 0 + _ ≤ _
 omega
theorem y7 (hc : a8 c) (h : tc c inp) (hi : i ≤ 100) (n : Nat) : ((DT c inp cls i).l n).length ≤ 11000 := by
 have h1 := pK hc n (DW (cls := cls) (i := i) hc h).1
 have h2 := AH c ((cls.map (ba c)).take i) (Eh c inp)
 have h3 := h.sm n
 have h4 := hc.nl
 have h5 : ((cls.map (ba c)).take i).length ≤ 100 := by rw [List.length_take]; omega
 have h6 : ((cls.map (ba c)).take i).length * c.procs.length ≤ 100 * 100 := Nat.mul_le_mul h5 h4
 have h7 : ((u0 c inp).l n).length ≤ 1000 := h3
 unfold DT
 omega
theorem Iy (hc : a8 c) (h : tc c inp) (hi : i ≤ 100) : IU (Ei c inp cls i) 11000 := fun n => by
 obtain ⟨_, b, d, _⟩ := DW (cls := cls) (i := i) hc h
 by_cases hn : n < c.chans.length
 ·rw [b.wd n hn, List.length_drop]; have := y7 (cls := cls) hc h hi n; omega
 ·show ((Ei c inp cls i).chans.getD n []).length ≤ _
  rw [List.getD_eq_getElem?_getD, List.getElem?_eq_none (by have := d.cl; omega)]; simp
def BO (c : Ci) (s : Ns) (u : Uf) (w : Nat → Bool) (k : Nat) : Uf := bX c u (ja c s w k)
theorem xE (k : Nat) : ja c s w (k + 1) = ja c s w k ++ (if aq c s w k = true then [k] else []) := by
 unfold ja
 rw [List.range_succ, List.filter_append]
 split
 ·rename_i hf; rw [List.filter_cons_of_pos hf, List.filter_nil]
 ·rename_i hf; rw [List.filter_cons_of_neg hf, List.filter_nil]
theorem FB (h : aq c s w k = true) : BO c s u w (k + 1) = ah c (BO c s u w k) k := by
 unfold BO; rw [xE, if_pos h, jA]; rfl
theorem Hn (h : aq c s w k = false) : BO c s u w (k + 1) = BO c s u w k := by
 unfold BO; rw [xE, if_neg (by rw [h]; simp), List.append_nil]
theorem Ho (hc : a8 c) (hs : jt c s) (hn : NU c s u) (hk : k < c.procs.length) (h : aq c s w k = true) : fk c (BO c s u w k) k = bD c s k := by
 rw [FA hc hk (gQ h).2]
 exact (rO hc hs hn w _ (Nat.le_refl _)).2.2 k hk h
theorem FC (hc : a8 c) (hs : jt c s) (hn : NU c s u) (hk : k ≤ c.procs.length) (n : Nat) : ((BO c s u w k).l n).length ≤ (u.l n).length + 100 := by
 have h1 := pK hc n (rO hc hs hn w k hk).1
 have h2 := AF c s w k
 have h3 := hc.nl
 unfold BO; omega
theorem FD (q : Nat) : (BO c s u w k).cnt q ≤ u.cnt q + 1 := by
 unfold BO
 rw [f6, uV]
 split <;> omega
theorem DX (n : Nat) (hl : inp.length = c.chans.length) : bM c (u0 c inp) = inp := by
 refine dq (d := []) (by rw [au, hl]) (fun i hi => ?_)
 rw [au] at hi
 rw [aH hi]; rfl
theorem DY : cZ c (u0 c inp) = List.replicate c.procs.length 0 := by
 refine dq (d := (0 : Int)) (by rw [au, List.length_replicate]) (fun i hi => ?_)
 rw [au] at hi
 rw [aH hi, cu]; rfl
theorem Iz : jf c (u0 c inp) = List.replicate c.chans.length 0 := by
 refine dq (d := (0 : Int)) (by rw [au, List.length_replicate]) (fun i hi => ?_)
 rw [au] at hi
 rw [aH hi, cu]; rfl
theorem wh (hk : k < c.procs.length) : (cZ c v).getD k 0 = (v.cnt k : Int) := aH hk
theorem DZ (hk : k < c.chans.length) : (jf c v).getD k 0 = (v.rd k : Int) := aH hk
end
end Go.Proofs.Ytckgpflobhpnpaa
