/-
  Package network: copies of slices, values.
-/
import Derived.Test.YtnlmlkbaflmgcaaQNeF
import Derived.WalkKit
namespace Go.Proofs.Ytnlmlkbaflmgcaa
open Go.RowKit
set_option linter.unusedVariables false
set_option linter.unusedSimpArgs false
theorem gZ {sz : Nat} {α : Type} {enc : α → List V} {d : α} : cu .nils (.v (.sl sz enc d [])) := by
  intro S μ w u hu
  cases hu
  exact .v _ _ (.nil _ _ _ _ _ (by simp [maxLen]) (fun _ => rfl))
theorem w3 {ag : Bool} {α : Type} {enc : α → List V} {d : α} : cu (.v .nmp) (.v (.sm ag enc d [])) := by
  intro S μ w u hu
  cases hu with
  | v _ _ h => cases h; exact .v _ _ (.smn _ _ _)
theorem DI : cu (.agg [.v (.str e0), .v (.str e0), .nils, .nils, .nils, .nils, .nils, .nils, .v .nmp, .v .nmp]) (fC true (kV ba)) :=
  Dx ⟨z6 _, z6 _, gZ, gZ, gZ, gZ, gZ, gZ, w3, w3, trivial⟩
def gH (o : Ci) (s : Ns) (k : ByteArray) : p5 := ah ba (bc o s o.procs.length) k
def DJ (f : p5) (p : Pr) : Ps := ⟨tab (fun i => eD f (p.regs.getD i aC)) p.regs.length, tab (fun i => fD f (p.mems.getD i au)) p.mems.length⟩
def d7 (o n : Ci) (s : Ns) (i : Nat) : Ps := DJ (gH o s (eG n i)) (n.procs.getD i ac)
def p7 (l : List ByteArray) (k : ByteArray) : Bool := l.any fun x => decide (x = k)
def JH (l : List ByteArray) (b : ByteArray) : Int := af (fun i => b.toList == (l.getD i .empty).toList) l.length
theorem Ac (l : List ByteArray) (b : ByteArray) : decide (JH l b ≥ 0) = p7 l b := by
  show decide (0 ≤ af _ _) = _
  rw [j7]
  unfold p7
  cases h : l.any fun x => decide (x = b)
  · rw [bh.2 (fun i hi => ?_)]; · rfl
    rw [List.any_eq_false] at h
    have := h (l.getD i .empty) (by rw [bS _ _ hi]; exact List.getElem_mem hi)
    have hne : ¬(l.getD i .empty = b) := by simpa using this
    have : (b.toList == (l.getD i .empty).toList) = false := beq_eq_false_iff_ne.2 (fun e => hne (toList_inj e).symm)
    rw [this]; rfl
  · rw [List.any_eq_true] at h
    obtain ⟨x, hx, hb⟩ := h
    have hb : x = b := by simpa using hb
    obtain ⟨i, hi, e⟩ := List.getElem_of_mem hx
    rw [dC (i := i) hi (by rw [bS _ _ hi, e, hb]; simp)]; rfl
def eX (o n : Ci) : List ByteArray := a4 o n o.chans.length
def DK (o n : Ci) (i : Nat) : Bool := aV (jv o) (bk n i) && !p7 (eX o n) (bk n i)
def cT (o n : Ci) (s : Ns) (i : Nat) : List Int := if DK o n i = true then s.chans.getD (ah 0 (jv o) (bk n i)).toNat [] else []
def ga (o n : Ci) (s : Ns) (k : Nat) : Bool := decide (0 < (s.chans.getD (ah 0 (jv o) ((eX o n).getD k .empty)).toNat []).length)
def b7 (o n : Ci) (s : Ns) (i : Nat) : Bool := decide (0 < (n.chans.getD i ax).cap) && decide ((n.chans.getD i ax).cap < ((cT o n s i).length : Int))
def aq (o n : Ci) (s : Ns) : Ns × Int := if (List.range (eX o n).length).any (ga o n s) || (List.range n.chans.length).any (b7 o n s) then (⟨[], []⟩, 150) else (⟨tab (d7 o n s) n.procs.length, tab (cT o n s) n.chans.length⟩, 0)
theorem yC {o n : Ci} {s : Ns} {k : Nat} (hk : k < (eX o n).length) (h : ga o n s k = true) : aq o n s = (⟨[], []⟩, 150) := by
  unfold aq
  rw [show (List.range (eX o n).length).any (ga o n s) = true from List.any_eq_true.2 ⟨k, List.mem_range.2 hk, h⟩]; rfl
theorem ns {o n : Ci} {s : Ns} {i : Nat} (hi : i < n.chans.length) (h : b7 o n s i = true) : aq o n s = (⟨[], []⟩, 150) := by
  unfold aq
  rw [show (List.range n.chans.length).any (b7 o n s) = true from List.any_eq_true.2 ⟨i, List.mem_range.2 hi, h⟩, Bool.or_true]; rfl
theorem DL {o n : Ci} {s : Ns} (h1 : ∀ k, k < (eX o n).length → ga o n s k = false) (h2 : ∀ i, i < n.chans.length → b7 o n s i = false) : aq o n s = (⟨tab (d7 o n s) n.procs.length, tab (cT o n s) n.chans.length⟩, 0) := by
  have e1 : (List.range (eX o n).length).any (ga o n s) = false := by
    rw [List.any_eq_false]; intro k hk; rw [h1 k (List.mem_range.1 hk)]; simp
  have e2 : (List.range n.chans.length).any (b7 o n s) = false := by
    rw [List.any_eq_false]; intro k hk; rw [h2 k (List.mem_range.1 hk)]; simp
  unfold aq
  rw [e1, e2]; rfl
theorem yD {o : Ci} {s : Ns} {k : ByteArray} : ∀ (n : Nat), ah ba (bc o s n) k = ba ∨ ∃ i, i < n ∧ ah ba (bc o s n) k = er o s i
  | 0 => .inl rfl
  | n + 1 => by
    rw [bc, eJ]
    by_cases h : k = eG o n
    · rw [if_pos h]; exact .inr ⟨n, by omega, rfl⟩
    · rw [if_neg h]
      rcases yD (o := o) (s := s) (k := k) n with h1 | ⟨i, h1, h2⟩
      · exact .inl h1
      · exact .inr ⟨i, by omega, h2⟩
theorem DM {o : Ci} {s : Ns} (hs : ∀ i, i < o.procs.length → (s.procs.getD i aX).regs.length = (o.procs.getD i ac).regs.length) (k q : ByteArray) (h : aV (gH o s k).regs q = true) : 0 ≤ ah 0 (gH o s k).regs q ∧ ah 0 (gH o s k).regs q < (gH o s k).p.regs.length ∧ ah 0 (gH o s k).regs q < (gH o s k).s.regs.length := by
  unfold gH at h ⊢
  rcases yD (o := o) (s := s) (k := k) o.procs.length with h1 | ⟨i, h1, h2⟩
  · rw [h1] at h; cases h
  · rw [h2] at h ⊢
    have := t3 _ h
    have hl := hs i h1
    exact ⟨this.1, this.2, by show _ < ((s.procs.getD i aX).regs.length : Int); rw [hl]; exact this.2⟩
theorem DN {o : Ci} {s : Ns} (hs : ∀ i, i < o.procs.length → (s.procs.getD i aX).mems.length = (o.procs.getD i ac).mems.length) (k q : ByteArray) (h : aV (gH o s k).mems q = true) : 0 ≤ ah 0 (gH o s k).mems q ∧ ah 0 (gH o s k).mems q < (gH o s k).p.mems.length ∧ ah 0 (gH o s k).mems q < (gH o s k).s.mems.length := by
  unfold gH at h ⊢
  rcases yD (o := o) (s := s) (k := k) o.procs.length with h1 | ⟨i, h1, h2⟩
  · rw [h1] at h; cases h
  · rw [h2] at h ⊢
    have := t3 _ h
    have hl := hs i h1
    exact ⟨this.1, this.2, by show _ < ((s.procs.getD i aX).mems.length : Int); rw [hl]; exact this.2⟩
theorem G3 {f : Nat → ByteArray} {k : ByteArray} : ∀ (n : Nat), 0 < n → 0 ≤ ah 0 (b4 [] f n) k ∧ ah 0 (b4 [] f n) k < (n : Int)
  | 0, h => by omega
  | n + 1, _ => by
    rw [b4, eJ]
    by_cases hk : k = f n
    · rw [if_pos hk]; omega
    · rw [if_neg hk]
      rcases Nat.eq_zero_or_pos n with h0 | h0
      · subst h0; rw [b4, ah]; omega
      · have := G3 (f := f) (k := k) n h0; omega
theorem DP (o n : Ci) : (eX o n).length ≤ o.chans.length := kW o n _
structure oB (o n : Ci) (s : Ns) : Prop where
  ol : o.chans.length ≤ 1000000
  nl : n.chans.length ≤ 1000000
  op : o.procs.length ≤ 1000000
  np : n.procs.length ≤ 1000000
  sl : s.procs.length = o.procs.length
  sc : s.chans.length = o.chans.length
  sr : ∀ i, i < o.procs.length → (s.procs.getD i aX).regs.length = (o.procs.getD i ac).regs.length
  sm : ∀ i, i < o.procs.length → (s.procs.getD i aX).mems.length = (o.procs.getD i ac).mems.length
  orr : ∀ i, i < o.procs.length → (o.procs.getD i ac).regs.length ≤ 1000000 ∧ (o.procs.getD i ac).mems.length ≤ 1000000
  nr : ∀ i, i < n.procs.length → (n.procs.getD i ac).regs.length ≤ 1000000 ∧ (n.procs.getD i ac).mems.length ≤ 1000000
  rk : ∀ i, i < n.procs.length → ∀ j, j < (n.procs.getD i ac).regs.length → 0 ≤ ((n.procs.getD i ac).regs.getD j aC).rule.kind ∧ ((n.procs.getD i ac).regs.getD j aC).rule.kind ≤ 3
  mk' : ∀ i, i < n.procs.length → ∀ j, j < (n.procs.getD i ac).mems.length → (0 ≤ ((n.procs.getD i ac).mems.getD j au).rule.kind ∧ ((n.procs.getD i ac).mems.getD j au).rule.kind ≤ 3) ∧ 0 ≤ ((n.procs.getD i ac).mems.getD j au).words ∧ ((n.procs.getD i ac).mems.getD j au).words ≤ 1000000
  sw : ∀ i, (s.chans.getD i []).length ≤ 1000000
abbrev Ad : aE := (.arr 3 1 (aa .i64) 0 ([] : List Int))
set_option maxRecDepth 100000
abbrev KN (l : List Int) : Fx := ⟨63,[(LI l)],(.own 0),(.arr 3 1 (aa .i64) 0 l)⟩
theorem yE (l : List Int) (h : l ≠ []) (hl : l.length ≤ 137438953472) : CO (KN l) := by
 refine ap.vcO (V := TT 2 (l ≠ []∧ai [] (([] : List Int).map (aa .i64))∧TT 1 ((([] : List Int).length + (l.map (aa .i64)).length ≤ 137438953472∧([] : List Int).map (aa .i64) ++ l.map (aa .i64) = l.map (aa .i64))∧TT 2 (((.own 0) : D) = .own 0∧((.arr 3 1 (aa .i64) 0 l) : aE) = (.arr 3 1 (aa .i64) 0 l))))) (.w 3 [(0,.box 3 1 (aa .i64) 0 ([] : List Int)),(2,.box 3 1 (aa .i64) 0 l)] <| .e) Try.func63 rfl rfl rfl (by kernel_rfl) ?_
 exact tt ⟨(by exact h),⟨oK,tt ⟨⟨by simp only [List.length_map,List.length_nil]; omega,by simp⟩,tt ⟨rfl,rfl⟩⟩⟩⟩
abbrev KO : Fx := ⟨63,[.nils],(.own 0),Ad⟩
theorem yF  : CO KO := by
 refine ap.vcO (V := TT 5 (((.own 0) : D) = .own 0∧([] : List Int) = [])) (.e) Try.func63 rfl rfl rfl (by kernel_rfl) ?_
 refine tt ⟨rfl,?_⟩
 rfl
abbrev KP : Fx := ⟨63,[(.v .esl)],(.own 0),Ad⟩
theorem yG  : CO KP := by
 refine ap.vcO (V := TT 3 (ai [] (([] : List Int).map (aa .i64))∧TT 1 ((([] : List Int).length + (([] : List (List V))).length ≤ 137438953472∧([] : List Int).map (aa .i64) ++ ([] : List (List V)) = ([] : List Int).map (aa .i64))∧TT 2 (((.own 0) : D) = .own 0∧(Ad : aE) = Ad)))) (.w 3 [(0,.box 3 1 (aa .i64) 0 ([] : List Int)),(2,.box 3 1 (aa .i64) 0 ([] : List Int))] <| .e) Try.func63 rfl rfl rfl (by kernel_rfl) ?_
 exact tt ⟨oK,tt ⟨⟨by simp,by simp⟩,tt ⟨rfl,rfl⟩⟩⟩
abbrev KQ (l : List Int) : Fx := ⟨63,[(LI l)],(.own 0),(.arr 3 1 (aa .i64) 0 l)⟩
theorem BF (l : List Int) (hl : l.length ≤ 137438953472) : CO (KQ l) :=
  ap.nilcases (fun h => yE l h hl) (fun h => by subst h; exact yF) (fun h => by subst h; exact yG)
end Go.Proofs.Ytnlmlkbaflmgcaa
