/-
  The laws of processes, plain data: expressions whose operators use the numbers that they have; widths.
-/
import Derived.Test.YtgfbfajaaaegjaaQPcK
namespace Go.Proofs.Ytgfbfajaaaegjaa
open Go.RowKit
set_option linter.unusedVariables false
set_option linter.unusedSimpArgs false
def BJ (e : Ex) : Prop := e.name = e0 ∧ e.k.p = e0 ∧ e.w.p = e0 ∧ (e.op = 1 ∨ e.op = 12 ∨ e.op = 16 ∨ e.op = 17 ∨ e.op = 18 ∨ e.k.n = 0) ∧ (e.op = 1 ∨ e.op = 12 ∨ e.op = 13 ∨ e.w.n = 0)
inductive i2 : Ex → Prop
 | mk (e : Ex) (h : BJ e) (ha : ∀ a ∈ e.args, i2 a) : i2 e
theorem i2.here {e : Ex} (h : i2 e) : BJ e := by cases h; assumption
theorem i2.arg {e a : Ex} (h : i2 e) (ha : a ∈ e.args) : i2 a := by cases h with | mk _ _ q => exact q a ha
theorem qu {e : Ex} (h : BJ e) (ha : e.args = []) : i2 e := .mk e h (fun a h => by rw [ha] at h; cases h)
theorem yo (v w : Int) : i2 (cu v w) := qu ⟨rfl, rfl, rfl, .inl rfl, .inl rfl⟩ rfl
theorem C8 : i2 dE := qu ⟨rfl, rfl, rfl, .inr (.inr (.inr (.inr (.inr rfl)))), .inr (.inr (.inr rfl))⟩ rfl
theorem C9 {α : Type} {Q : α → Prop} {l : List α} {d : α} (hd : Q d) (h : ∀ a ∈ l, Q a) (i : Nat) : Q (l.getD i d) := by
 rw [List.getD]
 cases hg : l[i]? with
 | none => exact hd
 | some a => exact h a (List.mem_of_getElem? hg)
theorem BK {s : Sg} {w : Int} {e : Ex} (h : e ∈ cp s w) : i2 e := by
 unfold cp at h
 rw [List.mem_append] at h
 rcases h with h | h
 ·obtain ⟨i, h1, rfl, h2⟩ := iO _ h
  exact qu ⟨rfl, rfl, rfl, .inr (.inr (.inl rfl)), .inr (.inr (.inr rfl))⟩ rfl
 ·split at h
  ·obtain ⟨i, h1, rfl, h2⟩ := iO _ h
   exact qu ⟨rfl, rfl, rfl, .inr (.inr (.inr (.inr (.inl rfl)))), .inr (.inr (.inr rfl))⟩ rfl
  ·cases h
theorem vR (s : Sg) (w b : Int) : i2 (aY s w b) := by
 unfold aY
 split
 ·exact yo _ _
 ·exact C9 C8 (fun a h => BK h) _
theorem vS {t : Nat → Int → Ex × Nat} (ht : ∀ i w, i2 (t i w).1) : ∀ (ws : List Int) (i : Nat), ∀ a ∈ (bh t ws i).1, i2 a
 | [], i, a, h => by cases h
 | w :: r, i, a, h => by
  simp only [bh, List.mem_cons] at h
  rcases h with rfl | h
  ·exact ht i w
  ·exact vS ht r _ a h
theorem lG (s : Sg) (b : List Int) : ∀ (d i : Nat) (w : Int), i2 (af s b d i w).1
 | 0, i, w => by rw [af]; exact vR _ _ _
 | d + 1, i, w => by
  have ih := lG s b d
  rw [af]
  split
  ·exact vR _ _ _
  ·split
   ·unfold bq
    split
    ·exact .mk _ ⟨rfl, rfl, rfl, .inr (.inr (.inr (.inl rfl))), .inr (.inr (.inr rfl))⟩ (fun a h => by simp only [List.mem_singleton] at h; rw [h]; exact ih _ _)
    ·split
     ·exact .mk _ ⟨rfl, rfl, rfl, .inr (.inr (.inr (.inr (.inr rfl)))), .inr (.inr (.inl rfl))⟩ (fun a h => by simp only [List.mem_singleton] at h; rw [h]; exact ih _ _)
     ·exact .mk _ ⟨rfl, rfl, rfl, .inr (.inl rfl), .inr (.inl rfl)⟩ (fun a h => by simp only [List.mem_singleton] at h; rw [h]; exact ih _ _)
   ·exact .mk _ ⟨rfl, rfl, rfl, .inr (.inr (.inr (.inr (.inr rfl)))), .inr (.inr (.inr rfl))⟩ (fun a h => vS ih _ _ a h)
theorem wV (s : Sg) (b : List Int) (i : Nat) : i2 (a8 s b i).1 := by
 unfold a8
 split
 ·exact yo _ _
 ·exact lG _ _ _ _ _
theorem AH (b : List Int) : ∀ a ∈ aj (aa b), i2 a := by
 refine yi (fun i hi a ha => ?_) (fun i hi a ha => ?_) (fun i hi a ha => ?_) (fun i hi a ha => ?_)
 ·rw [fT, List.mem_singleton] at ha
  have hi' : i < aB (b.getD 0 0) := by rw [← aC (B5 b) (aB (b.getD 0 0))]; exact hi
  rw [ha, show pI (aa b) i = B5 b i from bn hi']
  exact wV _ _ _
 ·rw [fR, List.mem_singleton] at ha
  have hi' : i < aF (b.getD 0 0) := by rw [← aC (AL b) (aF (b.getD 0 0))]; exact hi
  rw [ha, show vW (aa b) i = AL b i from bn hi']
  exact lG _ _ _ _ _
 ·by_cases h3 : b.getD 0 0 / 4 % 4 = 3
  ·have hm := pb h3
   rw [hm] at hi
   have h0 : i = 0 := by simpa using hi
   subst h0
   have e : iu (aa b) 0 = AM b := by show (aa b).mems.getD 0 ax = _; rw [hm]; rfl
   simp only [fM, List.mem_cons, List.not_mem_nil, or_false] at ha
   rw [e] at ha
   rcases ha with rfl | rfl | rfl
   ·exact wV _ _ _
   ·exact lG _ _ _ _ _
   ·exact lG _ _ _ _ _
  ·rw [pc h3] at hi; exact absurd hi (Nat.not_lt_zero _)
 ·have hi' : i < fQ (b.getD 0 0) := by rw [← aC (De b) (fQ (b.getD 0 0))]; exact hi
  simp only [fP, List.mem_cons, List.not_mem_nil, or_false] at ha
  rw [show vV (aa b) i = De b i from bn hi'] at ha
  rcases ha with rfl | rfl
  ·exact wV _ _ _
  ·exact lG _ _ _ _ _
theorem wW (b : List Int) {i : Nat} (hi : i < (ab (aj (aa b))).length) : i2 ((ab (aj (aa b))).getD i dE) := kD (fun e h a ha => h.arg ha) (AH b) _ _ (co hi)
def i3 (p : Pr) (e : Ex) : Int := (dc (f8 p) e).getD 0
def pS (p : Pr) (l : List Ex) : List Int := l.map (i3 p)
theorem uE {p : Pr} (l : List Ex) : (pS p l).length = l.length := by simp [pS]
theorem AI {p : Pr} {l : List Ex} {i : Nat} (h : i < l.length) : pS p (l.take (i + 1)) = pS p (l.take i) ++ [i3 p (l.getD i dE)] := by
 rw [oX (d := dE) h]; simp [pS]
section
variable {p : Pr} {s : Ps} {d : List Int} {e : Ex} {v : Int}
theorem tp (h : dc (f8 p) e = some v) : i3 p e = v := by unfold i3; rw [h]; rfl
theorem yp (ho : mm (f8 p) p s d) (h : dc (f8 p) e = some v) : i3 p e = (aL p s d e).2 ∧ 0 ≤ (aL p s d e).1 ∧ (aL p s d e).1 < 2 ^ (i3 p e).toNat ∧ 1 ≤ i3 p e ∧ i3 p e ≤ 8 := by
 obtain ⟨h1, h2, h3⟩ := xE ho (cR e) e v (Nat.le_refl _) h
 have h4 := aE.1 h3
 rw [tp h]
 have h5 := h2.2
 rw [dp (by omega) (by omega)] at h5
 exact ⟨h1.symm, h2.1, by omega, h4.1, h4.2⟩
theorem Ef (hp : cZ p) (h : dc (f8 p) e = some v) : 1 ≤ i3 p e ∧ i3 p e ≤ 8 := (yp (dr hp (ku hp) (Ai hp)) h).2.2.2
theorem BL {ws : List Int} (h : dc.tyL (f8 p) e.args = some ws) : ws = pS p e.args := by
 obtain ⟨hl, hg⟩ := fb h
 refine nr (d := 0) (by rw [uE]; exact hl) (fun i hi => ?_)
 unfold pS
 rw [bB (i3 p) e.args i dE 0 (by omega), tp (hg i (by omega))]
theorem Da (h : dc (f8 p) e = some v) (ho : e.op = 16) : e.args.length = 0 ∧ 0 ≤ e.k.n ∧ e.k.n < p.regs.length ∧ (p.regs.getD e.k.n.toNat aM).w = i3 p e := by
 obtain ⟨ws, h1, h2⟩ := dq h
 have hl := (fb h1).1
 rcases h2 with ⟨_, a, b, c, q⟩ | ⟨a, _⟩ | ⟨a, _⟩ | ⟨a, _⟩
 ·have hc : (f8 p).rw.length = p.regs.length := by simp [f8]
  refine ⟨by rw [← hl, a]; rfl, b, by omega, ?_⟩
  rw [tp h, q]
  exact (bB (·.w) p.regs e.k.n.toNat aM 0 (by omega)).symm
 all_goals omega
theorem BM (h : dc (f8 p) e = some v) (ho : e.op = 18) : e.args.length = 0 ∧ 0 ≤ e.k.n ∧ e.k.n < p.takes.length ∧ (p.takes.getD e.k.n.toNat aX).w = i3 p e := by
 obtain ⟨ws, h1, h2⟩ := dq h
 have hl := (fb h1).1
 rcases h2 with ⟨a, _⟩ | ⟨_, a, b, c, q⟩ | ⟨a, _⟩ | ⟨_, _, a, _⟩
 ·omega
 ·have hc : (f8 p).tw.length = p.takes.length := by simp [f8]
  refine ⟨by rw [← hl, a]; rfl, b, by omega, ?_⟩
  rw [tp h, q]
  exact (bB (·.w) p.takes e.k.n.toNat aX 0 (by omega)).symm
 all_goals omega
theorem BN (h : dc (f8 p) e = some v) (ho : e.op = 17) : e.args.length = 1 ∧ 0 ≤ e.k.n ∧ e.k.n < p.mems.length ∧ (p.mems.getD e.k.n.toNat ax).w = i3 p e := by
 obtain ⟨ws, h1, h2⟩ := dq h
 have hl := (fb h1).1
 rcases h2 with ⟨a, _⟩ | ⟨a, _⟩ | ⟨_, a, b, c, q⟩ | ⟨_, a, _⟩
 ·omega
 ·omega
 ·have hc : (f8 p).mw.length = p.mems.length := by simp [f8]
  refine ⟨by omega, b, by omega, ?_⟩
  rw [tp h, q]
  exact (bB (·.w) p.mems e.k.n.toNat ax 0 (by omega)).symm
 ·omega
theorem pT (h : dc (f8 p) e = some v) (h1 : ¬e.op = 16) (h2 : ¬e.op = 17) (h3 : ¬e.op = 18) : bl e.op (pS p e.args) e.k.n e.w.n = i3 p e := by
 obtain ⟨ws, q1, q2⟩ := dq h
 rcases q2 with ⟨a, _⟩ | ⟨a, _⟩ | ⟨a, _⟩ | ⟨_, _, _, a, b⟩
 ·omega
 ·omega
 ·omega
 ·rw [BL q1] at a b
  rw [tp h, b]
  unfold bl
  rw [if_pos a]
end
end Go.Proofs.Ytgfbfajaaaegjaa
