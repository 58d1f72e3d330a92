/-
  The laws of processes, plain data: expressions whose operators use the numbers that they have; widths.
-/
import Derived.Test.YtgfbfajaaaegjaaQPcK
namespace Go.Proofs.Ytgfbfajaaaegjaa
open Go.RowKit
set_option linter.unusedVariables false
set_option linter.unusedSimpArgs false
def Ap (e : Ex) : Prop := e.name = e0 ∧ e.k.p = e0 ∧ e.w.p = e0 ∧ (e.op = 1 ∨ e.op = 12 ∨ e.op = 16 ∨ e.op = 17 ∨ e.op = 18 ∨ e.k.n = 0) ∧ (e.op = 1 ∨ e.op = 12 ∨ e.op = 13 ∨ e.w.n = 0)
inductive eh : Ex → Prop
 | mk (e : Ex) (h : Ap e) (ha : ∀ a ∈ e.args, eh a) : eh e
theorem eh.here {e : Ex} (h : eh e) : Ap e := by cases h; assumption
theorem eh.arg {e a : Ex} (h : eh e) (ha : a ∈ e.args) : eh a := by cases h with | mk _ _ q => exact q a ha
theorem pQ {e : Ex} (h : Ap e) (ha : e.args = []) : eh e := .mk e h (fun a h => by rw [ha] at h; cases h)
theorem w8 (v w : Int) : eh (cb v w) := pQ ⟨rfl, rfl, rfl, .inl rfl, .inl rfl⟩ rfl
theorem BM : eh dE := pQ ⟨rfl, rfl, rfl, .inr (.inr (.inr (.inr (.inr rfl)))), .inr (.inr (.inr rfl))⟩ rfl
theorem BN {α : Type} {Q : α → Prop} {l : List α} {d : α} (hd : Q d) (h : ∀ a ∈ l, Q a) (i : Nat) : Q (l.getD i d) := by
 rw [List.getD]
 cases hg : l[i]? with
 | none => exact hd
 | some a => exact h a (List.mem_of_getElem? hg)
theorem Aq {s : Sg} {w : Int} {e : Ex} (h : e ∈ ca s w) : eh e := by
 unfold ca at h
 rw [List.mem_append] at h
 rcases h with h | h
 ·obtain ⟨i, h1, rfl, h2⟩ := ig _ h
  exact pQ ⟨rfl, rfl, rfl, .inr (.inr (.inl rfl)), .inr (.inr (.inr rfl))⟩ rfl
 ·split at h
  ·obtain ⟨i, h1, rfl, h2⟩ := ig _ h
   exact pQ ⟨rfl, rfl, rfl, .inr (.inr (.inr (.inr (.inl rfl)))), .inr (.inr (.inr rfl))⟩ rfl
  ·cases h
theorem uS (s : Sg) (w b : Int) : eh (aW s w b) := by
 unfold aW
 split
 ·exact w8 _ _
 ·exact BN BM (fun a h => Aq h) _
theorem uT {t : Nat → Int → Ex × Nat} (ht : ∀ i w, eh (t i w).1) : ∀ (ws : List Int) (i : Nat), ∀ a ∈ (a8 t ws i).1, eh a
 | [], i, a, h => by cases h
 | w :: r, i, a, h => by
  simp only [a8, List.mem_cons] at h
  rcases h with rfl | h
  ·exact ht i w
  ·exact uT ht r _ a h
theorem km (s : Sg) (b : List Int) : ∀ (d i : Nat) (w : Int), eh (ab s b d i w).1
 | 0, i, w => by rw [ab]; exact uS _ _ _
 | d + 1, i, w => by
  have ih := km s b d
  rw [ab]
  split
  ·exact uS _ _ _
  ·split
   ·unfold bh
    split
    ·exact .mk _ ⟨rfl, rfl, rfl, .inr (.inr (.inr (.inl rfl))), .inr (.inr (.inr rfl))⟩ (fun a h => by simp only [List.mem_singleton] at h; rw [h]; exact ih _ _)
    ·split
     ·exact .mk _ ⟨rfl, rfl, rfl, .inr (.inr (.inr (.inr (.inr rfl)))), .inr (.inr (.inl rfl))⟩ (fun a h => by simp only [List.mem_singleton] at h; rw [h]; exact ih _ _)
     ·exact .mk _ ⟨rfl, rfl, rfl, .inr (.inl rfl), .inr (.inl rfl)⟩ (fun a h => by simp only [List.mem_singleton] at h; rw [h]; exact ih _ _)
   ·exact .mk _ ⟨rfl, rfl, rfl, .inr (.inr (.inr (.inr (.inr rfl)))), .inr (.inr (.inr rfl))⟩ (fun a h => uT ih _ _ a h)
theorem vY (s : Sg) (b : List Int) (i : Nat) : eh (aY s b i).1 := by
 unfold aY
 split
 ·exact w8 _ _
 ·exact km _ _ _ _ _
theorem zc (b : List Int) : ∀ a ∈ zb (aa b), eh a := by
 refine Ao (fun i hi a ha => ?_) (fun i hi a ha => ?_) (fun i hi a ha => ?_) (fun i hi a ha => ?_)
 ·rw [fT, List.mem_singleton] at ha
  have hi' : i < ax (b.getD 0 0) := by rw [← aB (Ai b) (ax (b.getD 0 0))]; exact hi
  rw [ha, show o0 (aa b) i = Ai b i from aZ hi']
  exact vY _ _ _
 ·rw [fR, List.mem_singleton] at ha
  have hi' : i < aD (b.getD 0 0) := by rw [← aB (y6 b) (aD (b.getD 0 0))]; exact hi
  rw [ha, show rj (aa b) i = y6 b i from aZ hi']
  exact km _ _ _ _ _
 ·by_cases h3 : b.getD 0 0 / 4 % 4 = 3
  ·have hm := kg h3
   rw [hm] at hi
   have h0 : i = 0 := by simpa using hi
   subst h0
   have e : fr (aa b) 0 = y7 b := by show (aa b).mems.getD 0 ai = _; rw [hm]; rfl
   simp only [fM, List.mem_cons, List.not_mem_nil, or_false] at ha
   rw [e] at ha
   rcases ha with rfl | rfl | rfl
   ·exact vY _ _ _
   ·exact km _ _ _ _ _
   ·exact km _ _ _ _ _
  ·rw [kh h3] at hi; exact absurd hi (Nat.not_lt_zero _)
 ·have hi' : i < fe (b.getD 0 0) := by rw [← aB (BF b) (fe (b.getD 0 0))]; exact hi
  simp only [fP, List.mem_cons, List.not_mem_nil, or_false] at ha
  rw [show tq (aa b) i = BF b i from aZ hi'] at ha
  rcases ha with rfl | rfl
  ·exact vY _ _ _
  ·exact km _ _ _ _ _
def kn (p : Pr) (e : Ex) : Int := (cz (ee p) e).getD 0
def o6 (p : Pr) (l : List Ex) : List Int := l.map (kn p)
theorem tC {p : Pr} (l : List Ex) : (o6 p l).length = l.length := by simp [o6]
theorem ze {p : Pr} {l : List Ex} {i : Nat} (h : i < l.length) : o6 p (l.take (i + 1)) = o6 p (l.take i) ++ [kn p (l.getD i dE)] := by
 rw [ie (d := dE) h]; simp [o6]
section
variable {p : Pr} {s : Ps} {d : List Int} {e : Ex} {v : Int}
theorem jh (h : cz (ee p) e = some v) : kn p e = v := by unfold kn; rw [h]; rfl
theorem CV (ho : qF (ee p) p s d) (h : cz (ee p) e = some v) : kn p e = (bg p s d e).2 ∧ 0 ≤ (bg p s d e).1 ∧ (bg p s d e).1 < 2 ^ (kn p e).toNat ∧ 1 ≤ kn p e ∧ kn p e ≤ 8 := by
 obtain ⟨h1, h2, h3⟩ := yO ho (ce e) e v (Nat.le_refl _) h
 have h4 := aK.1 h3
 rw [jh h]
 have h5 := h2.2
 rw [ez (by omega) (by omega)] at h5
 exact ⟨h1.symm, h2.1, by omega, h4.1, h4.2⟩
theorem CW (hp : dA p) (h : cz (ee p) e = some v) : 1 ≤ kn p e ∧ kn p e ≤ 8 := (CV (ge hp (jD hp) (A7 hp)) h).2.2.2
theorem Ar {ws : List Int} (h : cz.tyL (ee p) e.args = some ws) : ws = o6 p e.args := by
 obtain ⟨hl, hg⟩ := e7 h
 refine qJ (d := 0) (by rw [tC]; exact hl) (fun i hi => ?_)
 unfold o6
 rw [bz (kn p) e.args i dE 0 (by omega), jh (hg i (by omega))]
theorem BO (h : cz (ee p) e = some v) (ho : e.op = 16) : e.args.length = 0 ∧ 0 ≤ e.k.n ∧ e.k.n < p.regs.length ∧ (p.regs.getD e.k.n.toNat aA).w = kn p e := by
 obtain ⟨ws, h1, h2⟩ := cS h
 have hl := (e7 h1).1
 rcases h2 with ⟨_, a, b, c, q⟩ | ⟨a, _⟩ | ⟨a, _⟩ | ⟨a, _⟩
 ·have hc : (ee p).rw.length = p.regs.length := by simp [ee]
  refine ⟨by rw [← hl, a]; rfl, b, by omega, ?_⟩
  rw [jh h, q]
  exact (bz (·.w) p.regs e.k.n.toNat aA 0 (by omega)).symm
 all_goals omega
theorem Au (h : cz (ee p) e = some v) (ho : e.op = 18) : e.args.length = 0 ∧ 0 ≤ e.k.n ∧ e.k.n < p.takes.length ∧ (p.takes.getD e.k.n.toNat aJ).w = kn p e := by
 obtain ⟨ws, h1, h2⟩ := cS h
 have hl := (e7 h1).1
 rcases h2 with ⟨a, _⟩ | ⟨_, a, b, c, q⟩ | ⟨a, _⟩ | ⟨_, _, a, _⟩
 ·omega
 ·have hc : (ee p).tw.length = p.takes.length := by simp [ee]
  refine ⟨by rw [← hl, a]; rfl, b, by omega, ?_⟩
  rw [jh h, q]
  exact (bz (·.w) p.takes e.k.n.toNat aJ 0 (by omega)).symm
 all_goals omega
theorem Av (h : cz (ee p) e = some v) (ho : e.op = 17) : e.args.length = 1 ∧ 0 ≤ e.k.n ∧ e.k.n < p.mems.length ∧ (p.mems.getD e.k.n.toNat ai).w = kn p e := by
 obtain ⟨ws, h1, h2⟩ := cS h
 have hl := (e7 h1).1
 rcases h2 with ⟨a, _⟩ | ⟨a, _⟩ | ⟨_, a, b, c, q⟩ | ⟨_, a, _⟩
 ·omega
 ·omega
 ·have hc : (ee p).mw.length = p.mems.length := by simp [ee]
  refine ⟨by omega, b, by omega, ?_⟩
  rw [jh h, q]
  exact (bz (·.w) p.mems e.k.n.toNat ai 0 (by omega)).symm
 ·omega
theorem o7 (h : cz (ee p) e = some v) (h1 : ¬e.op = 16) (h2 : ¬e.op = 17) (h3 : ¬e.op = 18) : cu e.op (o6 p e.args) e.k.n e.w.n = kn p e := by
 obtain ⟨ws, q1, q2⟩ := cS h
 rcases q2 with ⟨a, _⟩ | ⟨a, _⟩ | ⟨a, _⟩ | ⟨_, _, _, a, b⟩
 ·omega
 ·omega
 ·omega
 ·rw [Ar q1] at a b
  rw [jh h, b]
  unfold cu
  rw [if_pos a]
end
end Go.Proofs.Ytgfbfajaaaegjaa
