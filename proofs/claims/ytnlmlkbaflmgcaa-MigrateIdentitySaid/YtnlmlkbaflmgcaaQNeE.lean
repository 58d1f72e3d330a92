/-
  Package network: copies of slices, values.
-/
import Derived.Test.YtnlmlkbaflmgcaaQVbA
import Derived.Test.YtnlmlkbaflmgcaaQNeF
import Derived.WalkKit
namespace Go.Proofs.Ytnlmlkbaflmgcaa
open Go.RowKit
set_option linter.unusedVariables false
set_option linter.unusedSimpArgs false
theorem gO {sz : Nat} {α : Type} {enc : α → List V} {d : α} : cr .nils (.v (.sl sz enc d [])) := by
  intro S μ w u hu
  cases hu
  exact .v _ _ (.nil _ _ _ _ _ (by simp [maxLen]) (fun _ => rfl))
theorem xe {ag : Bool} {α : Type} {enc : α → List V} {d : α} : cr (.v .nmp) (.v (.sm ag enc d [])) := by
  intro S μ w u hu
  cases hu with
  | v _ _ h => cases h; exact .v _ _ (.smn _ _ _)
theorem DV : cr (.agg [.v (.str e0), .v (.str e0), .nils, .nils, .nils, .nils, .nils, .nils, .v .nmp, .v .nmp]) (ft true (kR bf)) :=
  DJ ⟨Ar _, Ar _, gO, gO, gO, gO, gO, gO, xe, xe, trivial⟩
def gt (o : Ci) (s : Ns) (k : ByteArray) : qc := ah bf (bh o s o.procs.length) k
def JB (f : qc) (p : Pr) : Ps := ⟨tab (fun i => eu f (p.regs.getD i aK)) p.regs.length, tab (fun i => fG f (p.mems.getD i ax)) p.mems.length⟩
def ew (o n : Ci) (s : Ns) (i : Nat) : Ps := JB (gt o s (fu n i)) (n.procs.getD i ac)
def Cq (l : List ByteArray) (k : ByteArray) : Bool := l.any fun x => decide (x = k)
def JC (l : List ByteArray) (b : ByteArray) : Int := cu (fun i => b.toList == (l.getD i .empty).toList) l.length
theorem Ay (l : List ByteArray) (b : ByteArray) : decide (JC l b ≥ 0) = Cq l b := by
  show decide (0 ≤ cu _ _) = _
  rw [jR]
  unfold Cq
  cases h : l.any fun x => decide (x = b)
  · rw [aR.2 (fun i hi => ?_)]; · rfl
    rw [List.any_eq_false] at h
    have := h (l.getD i .empty) (by rw [bC _ _ hi]; exact List.getElem_mem hi)
    have hne : ¬(l.getD i .empty = b) := by simpa using this
    have : (b.toList == (l.getD i .empty).toList) = false := beq_eq_false_iff_ne.2 (fun e => hne (toList_inj e).symm)
    rw [this]; rfl
  · rw [List.any_eq_true] at h
    obtain ⟨x, hx, hb⟩ := h
    have hb : x = b := by simpa using hb
    obtain ⟨i, hi, e⟩ := List.getElem_of_mem hx
    rw [dq (i := i) hi (by rw [bC _ _ hi, e, hb]; simp)]; rfl
def eN (o n : Ci) : List ByteArray := a7 o n o.chans.length
def DW (o n : Ci) (i : Nat) : Bool := aY (jj o) (be n i) && !Cq (eN o n) (be n i)
def bP (o n : Ci) (s : Ns) (i : Nat) : List Int := if DW o n i = true then s.chans.getD (ah 0 (jj o) (be n i)).toNat [] else []
def fS (o n : Ci) (s : Ns) (k : Nat) : Bool := decide (0 < (s.chans.getD (ah 0 (jj o) ((eN o n).getD k .empty)).toNat []).length)
def bz (o n : Ci) (s : Ns) (i : Nat) : Bool := decide (0 < (n.chans.getD i aB).cap) && decide ((n.chans.getD i aB).cap < ((bP o n s i).length : Int))
def af (o n : Ci) (s : Ns) : Ns × Int := if (List.range (eN o n).length).any (fS o n s) || (List.range n.chans.length).any (bz o n s) then (⟨[], []⟩, 150) else (⟨tab (ew o n s) n.procs.length, tab (bP o n s) n.chans.length⟩, 0)
theorem yS {o n : Ci} {s : Ns} {k : Nat} (hk : k < (eN o n).length) (h : fS o n s k = true) : af o n s = (⟨[], []⟩, 150) := by
  unfold af
  rw [show (List.range (eN o n).length).any (fS o n s) = true from List.any_eq_true.2 ⟨k, List.mem_range.2 hk, h⟩]; rfl
theorem nj {o n : Ci} {s : Ns} {i : Nat} (hi : i < n.chans.length) (h : bz o n s i = true) : af o n s = (⟨[], []⟩, 150) := by
  unfold af
  rw [show (List.range n.chans.length).any (bz o n s) = true from List.any_eq_true.2 ⟨i, List.mem_range.2 hi, h⟩, Bool.or_true]; rfl
theorem DX {o n : Ci} {s : Ns} (h1 : ∀ k, k < (eN o n).length → fS o n s k = false) (h2 : ∀ i, i < n.chans.length → bz o n s i = false) : af o n s = (⟨tab (ew o n s) n.procs.length, tab (bP o n s) n.chans.length⟩, 0) := by
  have e1 : (List.range (eN o n).length).any (fS o n s) = false := by
    rw [List.any_eq_false]; intro k hk; rw [h1 k (List.mem_range.1 hk)]; simp
  have e2 : (List.range n.chans.length).any (bz o n s) = false := by
    rw [List.any_eq_false]; intro k hk; rw [h2 k (List.mem_range.1 hk)]; simp
  unfold af
  rw [e1, e2]; rfl
theorem yT {o : Ci} {s : Ns} {k : ByteArray} : ∀ (n : Nat), ah bf (bh o s n) k = bf ∨ ∃ i, i < n ∧ ah bf (bh o s n) k = d5 o s i
  | 0 => .inl rfl
  | n + 1 => by
    rw [bh, eD]
    by_cases h : k = fu o n
    · rw [if_pos h]; exact .inr ⟨n, by omega, rfl⟩
    · rw [if_neg h]
      rcases yT (o := o) (s := s) (k := k) n with h1 | ⟨i, h1, h2⟩
      · exact .inl h1
      · exact .inr ⟨i, by omega, h2⟩
theorem DY {o : Ci} {s : Ns} (hs : ∀ i, i < o.procs.length → (s.procs.getD i aW).regs.length = (o.procs.getD i ac).regs.length) (k q : ByteArray) (h : aY (gt o s k).regs q = true) : 0 ≤ ah 0 (gt o s k).regs q ∧ ah 0 (gt o s k).regs q < (gt o s k).p.regs.length ∧ ah 0 (gt o s k).regs q < (gt o s k).s.regs.length := by
  unfold gt at h ⊢
  rcases yT (o := o) (s := s) (k := k) o.procs.length with h1 | ⟨i, h1, h2⟩
  · rw [h1] at h; cases h
  · rw [h2] at h ⊢
    have := ug _ h
    have hl := hs i h1
    exact ⟨this.1, this.2, by show _ < ((s.procs.getD i aW).regs.length : Int); rw [hl]; exact this.2⟩
theorem DZ {o : Ci} {s : Ns} (hs : ∀ i, i < o.procs.length → (s.procs.getD i aW).mems.length = (o.procs.getD i ac).mems.length) (k q : ByteArray) (h : aY (gt o s k).mems q = true) : 0 ≤ ah 0 (gt o s k).mems q ∧ ah 0 (gt o s k).mems q < (gt o s k).p.mems.length ∧ ah 0 (gt o s k).mems q < (gt o s k).s.mems.length := by
  unfold gt at h ⊢
  rcases yT (o := o) (s := s) (k := k) o.procs.length with h1 | ⟨i, h1, h2⟩
  · rw [h1] at h; cases h
  · rw [h2] at h ⊢
    have := ug _ h
    have hl := hs i h1
    exact ⟨this.1, this.2, by show _ < ((s.procs.getD i aW).mems.length : Int); rw [hl]; exact this.2⟩
theorem Hf {f : Nat → ByteArray} {k : ByteArray} : ∀ (n : Nat), 0 < n → 0 ≤ ah 0 (b3 [] f n) k ∧ ah 0 (b3 [] f n) k < (n : Int)
  | 0, h => by omega
  | n + 1, _ => by
    rw [b3, eD]
    by_cases hk : k = f n
    · rw [if_pos hk]; omega
    · rw [if_neg hk]
      rcases Nat.eq_zero_or_pos n with h0 | h0
      · subst h0; rw [b3, ah]; omega
      · have := Hf (f := f) (k := k) n h0; omega
theorem D0 (o n : Ci) : (eN o n).length ≤ o.chans.length := oq o n _
structure ku (o n : Ci) (s : Ns) : Prop where
  ol : o.chans.length ≤ 1000000
  nl : n.chans.length ≤ 1000000
  op : o.procs.length ≤ 1000000
  np : n.procs.length ≤ 1000000
  sl : s.procs.length = o.procs.length
  sc : s.chans.length = o.chans.length
  sr : ∀ i, i < o.procs.length → (s.procs.getD i aW).regs.length = (o.procs.getD i ac).regs.length
  sm : ∀ i, i < o.procs.length → (s.procs.getD i aW).mems.length = (o.procs.getD i ac).mems.length
  orr : ∀ i, i < o.procs.length → (o.procs.getD i ac).regs.length ≤ 1000000 ∧ (o.procs.getD i ac).mems.length ≤ 1000000
  nr : ∀ i, i < n.procs.length → (n.procs.getD i ac).regs.length ≤ 1000000 ∧ (n.procs.getD i ac).mems.length ≤ 1000000
  rk : ∀ i, i < n.procs.length → ∀ j, j < (n.procs.getD i ac).regs.length → 0 ≤ ((n.procs.getD i ac).regs.getD j aK).rule.kind ∧ ((n.procs.getD i ac).regs.getD j aK).rule.kind ≤ 3
  mk' : ∀ i, i < n.procs.length → ∀ j, j < (n.procs.getD i ac).mems.length → (0 ≤ ((n.procs.getD i ac).mems.getD j ax).rule.kind ∧ ((n.procs.getD i ac).mems.getD j ax).rule.kind ≤ 3) ∧ 0 ≤ ((n.procs.getD i ac).mems.getD j ax).words ∧ ((n.procs.getD i ac).mems.getD j ax).words ≤ 1000000
  sw : ∀ i, (s.chans.getD i []).length ≤ 1000000
abbrev Az : aE := (.arr 3 1 (aa .i64) 0 ([] : List Int))
set_option maxRecDepth 100000
abbrev KI (l : List Int) : FE := ⟨63,[(LI l)],(.own 0),(.arr 3 1 (aa .i64) 0 l)⟩
theorem yU (l : List Int) (h : l ≠ []) (hl : l.length ≤ 137438953472) : CO (KI l) := by
 refine aq.vcO (V := TT 2 (l ≠ []∧am [] (([] : List Int).map (aa .i64))∧TT 1 ((([] : List Int).length + (l.map (aa .i64)).length ≤ 137438953472∧([] : List Int).map (aa .i64) ++ l.map (aa .i64) = l.map (aa .i64))∧TT 2 (((.own 0) : D) = .own 0∧((.arr 3 1 (aa .i64) 0 l) : aE) = (.arr 3 1 (aa .i64) 0 l))))) (.w 3 [(0,.box 3 1 (aa .i64) 0 ([] : List Int)),(2,.box 3 1 (aa .i64) 0 l)] <| .e) Try.func63 rfl rfl rfl (by kernel_rfl) ?_
 exact tt ⟨(by exact h),⟨oK,tt ⟨⟨by simp only [List.length_map,List.length_nil]; omega,by simp⟩,tt ⟨rfl,rfl⟩⟩⟩⟩
abbrev KJ : FE := ⟨63,[.nils],(.own 0),Az⟩
theorem yV  : CO KJ := by
 refine aq.vcO (V := TT 5 (((.own 0) : D) = .own 0∧([] : List Int) = [])) (.e) Try.func63 rfl rfl rfl (by kernel_rfl) ?_
 refine tt ⟨rfl,?_⟩
 rfl
abbrev KK : FE := ⟨63,[(.v .esl)],(.own 0),Az⟩
theorem yW  : CO KK := by
 refine aq.vcO (V := TT 3 (am [] (([] : List Int).map (aa .i64))∧TT 1 ((([] : List Int).length + (([] : List (List V))).length ≤ 137438953472∧([] : List Int).map (aa .i64) ++ ([] : List (List V)) = ([] : List Int).map (aa .i64))∧TT 2 (((.own 0) : D) = .own 0∧(Az : aE) = Az)))) (.w 3 [(0,.box 3 1 (aa .i64) 0 ([] : List Int)),(2,.box 3 1 (aa .i64) 0 ([] : List Int))] <| .e) Try.func63 rfl rfl rfl (by kernel_rfl) ?_
 exact tt ⟨oK,tt ⟨⟨by simp,by simp⟩,tt ⟨rfl,rfl⟩⟩⟩
abbrev KL (l : List Int) : FE := ⟨63,[(LI l)],(.own 0),(.arr 3 1 (aa .i64) 0 l)⟩
theorem BU (l : List Int) (hl : l.length ≤ 137438953472) : CO (KL l) :=
  aq.nilcases (fun h => yU l h hl) (fun h => by subst h; exact yV) (fun h => by subst h; exact yW)
end Go.Proofs.Ytnlmlkbaflmgcaa
