/-
  Package migrate, plain data: carried states.
-/
import Derived.Test.YtnlmlkbaflmgcaaQVbA
import Derived.Test.YtnlmlkbaflmgcaaQNeF
namespace Go.Proofs.Ytnlmlkbaflmgcaa
open Go.RowKit
set_option linter.unusedVariables false
set_option linter.unusedSimpArgs false
theorem gK {sz : Nat} {α : Type} {enc : α → List V} {d : α} : cg .nils (.v (.sl sz enc d [])) := by
  intro S μ w u hu
  cases hu
  exact .v _ _ (.nil _ _ _ _ _ (by simp [maxLen]) (fun _ => rfl))
theorem wX {ag : Bool} {α : Type} {enc : α → List V} {d : α} : cg (.v .nmp) (.v (.sm ag enc d [])) := by
  intro S μ w u hu
  cases hu with
  | v _ _ h => cases h; exact .v _ _ (.smn _ _ _)
theorem Dz : cg (.agg [.v (.str e0), .v (.str e0), .nils, .nils, .nils, .nils, .nils, .nils, .v .nmp, .v .nmp]) (fo true (kF ba)) :=
  Dn ⟨zY _, zY _, gK, gK, gK, gK, gK, gK, wX, wX, trivial⟩
def gj (o : Ci) (s : Ns) (k : ByteArray) : pV := ah ba (bc o s o.procs.length) k
def DA (f : pV) (p : Pr) : Ps := ⟨tab (fun i => eh f (p.regs.getD i aO)) p.regs.length, tab (fun i => fp f (p.mems.getD i aB)) p.mems.length⟩
def cO (o n : Ci) (s : Ns) (i : Nat) : Ps := DA (gj o s (kg n i)) (n.procs.getD i af)
def B1 (l : List ByteArray) (k : ByteArray) : Bool := l.any fun x => decide (x = k)
def Jg (l : List ByteArray) (b : ByteArray) : Int := cb (fun i => b.toList == (l.getD i .empty).toList) l.length
theorem z6 (l : List ByteArray) (b : ByteArray) : decide (Jg l b ≥ 0) = B1 l b := by
  show decide (0 ≤ cb _ _) = _
  rw [ii]
  unfold B1
  cases h : l.any fun x => decide (x = b)
  · rw [bi.2 (fun i hi => ?_)]; · rfl
    rw [List.any_eq_false] at h
    have := h (l.getD i .empty) (by rw [ct _ _ hi]; exact List.getElem_mem hi)
    have hne : ¬(l.getD i .empty = b) := by simpa using this
    have : (b.toList == (l.getD i .empty).toList) = false := beq_eq_false_iff_ne.2 (fun e => hne (toList_inj e).symm)
    rw [this]; rfl
  · rw [List.any_eq_true] at h
    obtain ⟨x, hx, hb⟩ := h
    have hb : x = b := by simpa using hb
    obtain ⟨i, hi, e⟩ := List.getElem_of_mem hx
    rw [dP (i := i) hi (by rw [ct _ _ hi, e, hb]; simp)]; rfl
def eK (o n : Ci) : List ByteArray := aK o n o.chans.length
def DB (o n : Ci) (i : Nat) : Bool := aW (jL o) (a6 n i) && !B1 (eK o n) (a6 n i)
def bP (o n : Ci) (s : Ns) (i : Nat) : List Int := if DB o n i = true then s.chans.getD (ah 0 (jL o) (a6 n i)).toNat [] else []
def fK (o n : Ci) (s : Ns) (k : Nat) : Bool := decide (0 < (s.chans.getD (ah 0 (jL o) ((eK o n).getD k .empty)).toNat []).length)
def bG (o n : Ci) (s : Ns) (i : Nat) : Bool := decide (0 < (n.chans.getD i ax).cap) && decide ((n.chans.getD i ax).cap < ((bP o n s i).length : Int))
def ae (o n : Ci) (s : Ns) : Ns × Int := if (List.range (eK o n).length).any (fK o n s) || (List.range n.chans.length).any (bG o n s) then (⟨[], []⟩, 150) else (⟨tab (cO o n s) n.procs.length, tab (bP o n s) n.chans.length⟩, 0)
theorem yD {o n : Ci} {s : Ns} {k : Nat} (hk : k < (eK o n).length) (h : fK o n s k = true) : ae o n s = (⟨[], []⟩, 150) := by
  unfold ae
  rw [show (List.range (eK o n).length).any (fK o n s) = true from List.any_eq_true.2 ⟨k, List.mem_range.2 hk, h⟩]; rfl
theorem m6 {o n : Ci} {s : Ns} {i : Nat} (hi : i < n.chans.length) (h : bG o n s i = true) : ae o n s = (⟨[], []⟩, 150) := by
  unfold ae
  rw [show (List.range n.chans.length).any (bG o n s) = true from List.any_eq_true.2 ⟨i, List.mem_range.2 hi, h⟩, Bool.or_true]; rfl
theorem DC {o n : Ci} {s : Ns} (h1 : ∀ k, k < (eK o n).length → fK o n s k = false) (h2 : ∀ i, i < n.chans.length → bG o n s i = false) : ae o n s = (⟨tab (cO o n s) n.procs.length, tab (bP o n s) n.chans.length⟩, 0) := by
  have e1 : (List.range (eK o n).length).any (fK o n s) = false := by
    rw [List.any_eq_false]; intro k hk; rw [h1 k (List.mem_range.1 hk)]; simp
  have e2 : (List.range n.chans.length).any (bG o n s) = false := by
    rw [List.any_eq_false]; intro k hk; rw [h2 k (List.mem_range.1 hk)]; simp
  unfold ae
  rw [e1, e2]; rfl
theorem yE {o : Ci} {s : Ns} {k : ByteArray} : ∀ (n : Nat), ah ba (bc o s n) k = ba ∨ ∃ i, i < n ∧ ah ba (bc o s n) k = dZ o s i
  | 0 => .inl rfl
  | n + 1 => by
    rw [bc, ew]
    by_cases h : k = kg o n
    · rw [if_pos h]; exact .inr ⟨n, by omega, rfl⟩
    · rw [if_neg h]
      rcases yE (o := o) (s := s) (k := k) n with h1 | ⟨i, h1, h2⟩
      · exact .inl h1
      · exact .inr ⟨i, by omega, h2⟩
theorem DD {o : Ci} {s : Ns} (hs : ∀ i, i < o.procs.length → (s.procs.getD i aZ).regs.length = (o.procs.getD i af).regs.length) (k q : ByteArray) (h : aW (gj o s k).regs q = true) : 0 ≤ ah 0 (gj o s k).regs q ∧ ah 0 (gj o s k).regs q < (gj o s k).p.regs.length ∧ ah 0 (gj o s k).regs q < (gj o s k).s.regs.length := by
  unfold gj at h ⊢
  rcases yE (o := o) (s := s) (k := k) o.procs.length with h1 | ⟨i, h1, h2⟩
  · rw [h1] at h; cases h
  · rw [h2] at h ⊢
    have := tW _ h
    have hl := hs i h1
    exact ⟨this.1, this.2, by show _ < ((s.procs.getD i aZ).regs.length : Int); rw [hl]; exact this.2⟩
theorem DE {o : Ci} {s : Ns} (hs : ∀ i, i < o.procs.length → (s.procs.getD i aZ).mems.length = (o.procs.getD i af).mems.length) (k q : ByteArray) (h : aW (gj o s k).mems q = true) : 0 ≤ ah 0 (gj o s k).mems q ∧ ah 0 (gj o s k).mems q < (gj o s k).p.mems.length ∧ ah 0 (gj o s k).mems q < (gj o s k).s.mems.length := by
  unfold gj at h ⊢
  rcases yE (o := o) (s := s) (k := k) o.procs.length with h1 | ⟨i, h1, h2⟩
  · rw [h1] at h; cases h
  · rw [h2] at h ⊢
    have := tW _ h
    have hl := hs i h1
    exact ⟨this.1, this.2, by show _ < ((s.procs.getD i aZ).mems.length : Int); rw [hl]; exact this.2⟩
theorem GR {f : Nat → ByteArray} {k : ByteArray} : ∀ (n : Nat), 0 < n → 0 ≤ ah 0 (bW [] f n) k ∧ ah 0 (bW [] f n) k < (n : Int)
  | 0, h => by omega
  | n + 1, _ => by
    rw [bW, ew]
    by_cases hk : k = f n
    · rw [if_pos hk]; omega
    · rw [if_neg hk]
      rcases Nat.eq_zero_or_pos n with h0 | h0
      · subst h0; rw [bW, ah]; omega
      · have := GR (f := f) (k := k) n h0; omega
theorem DF (o n : Ci) : (eK o n).length ≤ o.chans.length := ob o n _
structure oi (o n : Ci) (s : Ns) : Prop where
  ol : o.chans.length ≤ 1000000
  nl : n.chans.length ≤ 1000000
  op : o.procs.length ≤ 1000000
  np : n.procs.length ≤ 1000000
  sl : s.procs.length = o.procs.length
  sc : s.chans.length = o.chans.length
  sr : ∀ i, i < o.procs.length → (s.procs.getD i aZ).regs.length = (o.procs.getD i af).regs.length
  sm : ∀ i, i < o.procs.length → (s.procs.getD i aZ).mems.length = (o.procs.getD i af).mems.length
  orr : ∀ i, i < o.procs.length → (o.procs.getD i af).regs.length ≤ 1000000 ∧ (o.procs.getD i af).mems.length ≤ 1000000
  nr : ∀ i, i < n.procs.length → (n.procs.getD i af).regs.length ≤ 1000000 ∧ (n.procs.getD i af).mems.length ≤ 1000000
  rk : ∀ i, i < n.procs.length → ∀ j, j < (n.procs.getD i af).regs.length → 0 ≤ ((n.procs.getD i af).regs.getD j aO).rule.kind ∧ ((n.procs.getD i af).regs.getD j aO).rule.kind ≤ 3
  mk' : ∀ i, i < n.procs.length → ∀ j, j < (n.procs.getD i af).mems.length → (0 ≤ ((n.procs.getD i af).mems.getD j aB).rule.kind ∧ ((n.procs.getD i af).mems.getD j aB).rule.kind ≤ 3) ∧ 0 ≤ ((n.procs.getD i af).mems.getD j aB).words ∧ ((n.procs.getD i af).mems.getD j aB).words ≤ 1000000
  sw : ∀ i, (s.chans.getD i []).length ≤ 1000000
end Go.Proofs.Ytnlmlkbaflmgcaa
