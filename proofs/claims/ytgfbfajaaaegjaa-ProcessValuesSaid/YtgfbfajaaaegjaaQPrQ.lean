/-
  Processes, plain law: values of expressions, widths, what a process does.
-/
import Derived.Test.YtgfbfajaaaegjaaQPrP
import Derived.Test.YtgfbfajaaaegjaaQPrR
namespace Go.Proofs.Ytgfbfajaaaegjaa
open Go.RowKit
set_option linter.unusedVariables false
set_option linter.unusedSimpArgs false
def aL (p : Pr) (s : Ps) (data : List Int) : Ex → Int × Int
 | ⟨op, _, k, w, args⟩ =>
  if op = 16 then (s.regs.getD k.n.toNat 0, (p.regs.getD k.n.toNat aM).w)
  else if op = 18 then (data.getD k.n.toNat 0, (p.takes.getD k.n.toNat aX).w)
  else if op = 17 then ((s.mems.getD k.n.toNat []).getD (Int.tmod ((evL args).getD 0 (0, 0)).1 (s.mems.getD k.n.toNat []).length).toNat 0, (p.mems.getD k.n.toNat ax).w)
  else (ca op ((evL args).map (·.2)) ((evL args).map (·.1)) [k.n, w.n], bl op ((evL args).map (·.2)) k.n w.n)
where evL : List Ex → List (Int × Int)
 | [] => []
 | a :: r => aL p s data a :: evL r
theorem xB {p : Pr} {s : Ps} {data : List Int} : ∀ (l : List Ex), aL.evL p s data l = l.map (aL p s data)
 | [] => rfl
 | a :: r => by rw [aL.evL, xB r]; rfl
theorem mj (p : Pr) (s : Ps) (data : List Int) (e : Ex) : aL p s data e =
  if e.op = 16 then (s.regs.getD e.k.n.toNat 0, (p.regs.getD e.k.n.toNat aM).w)
  else if e.op = 18 then (data.getD e.k.n.toNat 0, (p.takes.getD e.k.n.toNat aX).w)
  else if e.op = 17 then ((s.mems.getD e.k.n.toNat []).getD (Int.tmod ((e.args.map (aL p s data)).getD 0 (0, 0)).1 (s.mems.getD e.k.n.toNat []).length).toNat 0, (p.mems.getD e.k.n.toNat ax).w)
  else (ca e.op ((e.args.map (aL p s data)).map (·.2)) ((e.args.map (aL p s data)).map (·.1)) [e.k.n, e.w.n], bl e.op ((e.args.map (aL p s data)).map (·.2)) e.k.n e.w.n) := by
 cases e with
 | mk op name k w args => rw [aL, xB]
structure Sc where
 rw : List Int
 mw : List Int
 tw : List Int
def dc (c : Sc) : Ex → Option Int
 | ⟨op, _, k, w, args⟩ => match tyL args with
  | none => none
  | some ws =>
   if op = 16 then (if ws = [] ∧ 0 ≤ k.n ∧ k.n < c.rw.length then some (c.rw.getD k.n.toNat 0) else none)
   else if op = 18 then (if ws = [] ∧ 0 ≤ k.n ∧ k.n < c.tw.length then some (c.tw.getD k.n.toNat 0) else none)
   else if op = 17 then (if ws.length = 1 ∧ 0 ≤ k.n ∧ k.n < c.mw.length then some (c.mw.getD k.n.toNat 0) else none)
   else if fL op ws k.n w.n then some (a7 op ws k.n w.n) else none
where tyL : List Ex → Option (List Int)
 | [] => some []
 | a :: r => match dc c a, tyL r with
  | some w, some ws => some (w :: ws)
  | _, _ => none
theorem fb {c : Sc} : ∀ {l : List Ex} {ws : List Int}, dc.tyL c l = some ws → ws.length = l.length ∧ ∀ i, i < l.length → dc c (l.getD i dE) = some (ws.getD i 0)
 | [], ws, h => by rw [dc.tyL] at h; cases h; exact ⟨rfl, fun i hi => absurd hi (Nat.not_lt_zero _)⟩
 | a :: r, ws, h => by
  rw [dc.tyL] at h
  split at h
  ·rename_i w ws' h1 h2
   cases h
   obtain ⟨q1, q2⟩ := fb h2
   refine ⟨by simp [q1], fun i hi => ?_⟩
   cases i with
   | zero => exact h1
   | succ i => exact q2 i (by simpa using hi)
  ·cases h
theorem dq {c : Sc} {e : Ex} {w : Int} (h : dc c e = some w) : ∃ ws, dc.tyL c e.args = some ws ∧
  ((e.op = 16 ∧ ws = [] ∧ 0 ≤ e.k.n ∧ e.k.n < c.rw.length ∧ w = c.rw.getD e.k.n.toNat 0) ∨ (e.op = 18 ∧ ws = [] ∧ 0 ≤ e.k.n ∧ e.k.n < c.tw.length ∧ w = c.tw.getD e.k.n.toNat 0) ∨
   (e.op = 17 ∧ ws.length = 1 ∧ 0 ≤ e.k.n ∧ e.k.n < c.mw.length ∧ w = c.mw.getD e.k.n.toNat 0) ∨ (e.op ≠ 16 ∧ e.op ≠ 17 ∧ e.op ≠ 18 ∧ fL e.op ws e.k.n e.w.n = true ∧ w = a7 e.op ws e.k.n e.w.n)) := by
 cases e with
 | mk op name k w0 args =>
  rw [dc] at h
  split at h
  ·cases h
  ·rename_i ws hws
   refine ⟨ws, hws, ?_⟩
   split at h
   ·rename_i ho
    split at h
    ·rename_i hc; cases h; exact .inl ⟨ho, hc.1, hc.2.1, hc.2.2, rfl⟩
    ·cases h
   ·split at h
    ·rename_i ho
     split at h
     ·rename_i hc; cases h; exact .inr (.inl ⟨ho, hc.1, hc.2.1, hc.2.2, rfl⟩)
     ·cases h
    ·split at h
     ·rename_i ho
      split at h
      ·rename_i hc; cases h; exact .inr (.inr (.inl ⟨ho, hc.1, hc.2.1, hc.2.2, rfl⟩))
      ·cases h
     ·split at h
      ·rename_i h1 h2 h3 hc; cases h; exact .inr (.inr (.inr ⟨h1, h3, h2, hc, rfl⟩))
      ·cases h
structure mm (c : Sc) (p : Pr) (s : Ps) (data : List Int) : Prop where
 prl : p.regs.length = c.rw.length
 prw : ∀ i, i < c.rw.length → (p.regs.getD i aM).w = c.rw.getD i 0
 pml : p.mems.length = c.mw.length
 pmw : ∀ i, i < c.mw.length → (p.mems.getD i ax).w = c.mw.getD i 0
 ptl : p.takes.length = c.tw.length
 ptw : ∀ i, i < c.tw.length → (p.takes.getD i aX).w = c.tw.getD i 0
 srl : s.regs.length = c.rw.length
 srv : ∀ i, i < c.rw.length → dX (s.regs.getD i 0) (c.rw.getD i 0)
 sml : s.mems.length = c.mw.length
 smn : ∀ i, i < c.mw.length → 0 < (s.mems.getD i []).length
 smv : ∀ i, i < c.mw.length → ∀ j, j < (s.mems.getD i []).length → dX ((s.mems.getD i []).getD j 0) (c.mw.getD i 0)
 dl : data.length = c.tw.length
 dv : ∀ i, i < c.tw.length → dX (data.getD i 0) (c.tw.getD i 0)
 rok : ∀ i, i < c.rw.length → ai (c.rw.getD i 0) = true
 mok : ∀ i, i < c.mw.length → ai (c.mw.getD i 0) = true
 tok : ∀ i, i < c.tw.length → ai (c.tw.getD i 0) = true
theorem bB {α β : Type} (f : α → β) (l : List α) (i : Nat) (d : α) (d' : β) (h : i < l.length) : (l.map f).getD i d' = f (l.getD i d) := by
 simp [List.getD, List.getElem?_eq_getElem h]
theorem xC {e : Ex} {i : Nat} (h : i < e.args.length) : cR (e.args.getD i dE) < cR e := by
 cases e with
 | mk op name k w args =>
  have key : ∀ (l : List Ex) (i : Nat), i < l.length → cR (l.getD i dE) ≤ cR.depL l := by
   intro l
   induction l with
   | nil => intro i hi; exact absurd hi (Nat.not_lt_zero _)
   | cons a r ih =>
    intro i hi
    rw [cR.depL]
    cases i with
    | zero => show cR a ≤ _; omega
    | succ i =>
     have := ih i (by simpa using hi)
     show cR (r.getD i dE) ≤ _
     omega
  have := key args i h
  rw [cR]
  exact Nat.lt_succ_of_le this
theorem CP {l : List Int} {p : Int → Bool} (h : ∀ i, i < l.length → p (l.getD i 0) = true) : l.all p = true := by
 rw [List.all_eq_true]
 intro x hx
 obtain ⟨i, hi, rfl⟩ := List.mem_iff_getElem.1 hx
 have := h i hi
 simpa [List.getD, List.getElem?_eq_getElem hi] using this
theorem xD {c : Sc} {p : Pr} {s : Ps} {data : List Int} {args : List Ex} {ws : List Int} (hl : ws.length = args.length)
  (h : ∀ i, i < args.length → (aL p s data (args.getD i dE)).2 = ws.getD i 0 ∧ dX (aL p s data (args.getD i dE)).1 (ws.getD i 0) ∧ ai (ws.getD i 0) = true) :
  (args.map (aL p s data)).map (·.2) = ws ∧ ((args.map (aL p s data)).map (·.1)).length = ws.length ∧ vn ws ((args.map (aL p s data)).map (·.1)) = true ∧ ws.all ai = true := by
 refine ⟨?_, by simp [hl], ?_, CP (fun i hi => (h i (by omega)).2.2)⟩
 ·apply List.ext_getElem
  ·simp [hl]
  ·intro i h1 h2
   have := (h i (by omega)).1
   simp only [List.getElem_map]
   have e1 : args.getD i dE = args[i]'(by omega) := by simp [List.getD, List.getElem?_eq_getElem (show i < args.length by omega)]
   have e2 : ws.getD i 0 = ws[i] := by simp [List.getD, List.getElem?_eq_getElem h2]
   rw [e1, e2] at this
   exact this
 ·refine zK (fun i hi => ?_)
  have hi' : i < args.length := by simpa using hi
  have := (h i hi').2.1
  rw [List.map_map, bB ((·.1) ∘ aL p s data) args i dE 0 hi']
  exact this
theorem xE {c : Sc} {p : Pr} {s : Ps} {data : List Int} (ho : mm c p s data) : ∀ (n : Nat) (e : Ex) (w : Int), cR e ≤ n → dc c e = some w → (aL p s data e).2 = w ∧ dX (aL p s data e).1 w ∧ ai w = true := by
 intro n
 induction n with
 | zero => intro e w hd; cases e with | mk op name k w args => rw [cR] at hd; omega
 | succ n ih =>
  intro e w hd hty
  obtain ⟨ws, hws, hc⟩ := dq hty
  obtain ⟨hl, hget⟩ := fb hws
  have hargs : ∀ i, i < e.args.length → (aL p s data (e.args.getD i dE)).2 = ws.getD i 0 ∧ dX (aL p s data (e.args.getD i dE)).1 (ws.getD i 0) ∧ ai (ws.getD i 0) = true := fun i hi => ih _ _ (by have := xC hi; omega) (hget i hi)
  rw [mj]
  rcases hc with ⟨h1, h2, h3, h4, rfl⟩ | ⟨h1, h2, h3, h4, rfl⟩ | ⟨h1, h2, h3, h4, rfl⟩ | ⟨h1, h2, h2', h3, rfl⟩
  ·rw [if_pos h1]
   exact ⟨ho.prw _ (by omega), ho.srv _ (by omega), ho.rok _ (by omega)⟩
  ·rw [if_neg (by omega), if_pos h1]
   exact ⟨ho.ptw _ (by omega), ho.dv _ (by omega), ho.tok _ (by omega)⟩
  ·rw [if_neg (by omega), if_neg (by omega), if_pos h1]
   refine ⟨ho.pmw _ (by omega), ho.smv _ (by omega) _ ?_, ho.mok _ (by omega)⟩
   have hn := ho.smn e.k.n.toNat (by omega)
   have a0 := (hargs 0 (by omega)).2.1.1
   rw [bB (aL p s data) e.args 0 dE (0, 0) (by omega)]
   have := Int.tmod_lt_of_pos (aL p s data (e.args.getD 0 dE)).1 (show (0 : Int) < (s.mems.getD e.k.n.toNat []).length by omega)
   have h0 := Int.tmod_nonneg (((s.mems.getD e.k.n.toNat []).length : Nat) : Int) a0
   omega
  ·rw [if_neg h1, if_neg h2', if_neg h2]
   obtain ⟨q1, q2, q3, q4⟩ := xD (c := c) hl hargs
   rw [q1]
   obtain ⟨r1, r2⟩ := yQ (nums := [e.k.n, e.w.n]) h3 q2 q3 rfl rfl rfl
   refine ⟨?_, r2, ?_⟩
   ·unfold bl; rw [h3]; rfl
   ·exact (iq h3).2.2
theorem xF {a : Ex} : ∀ {l : List Ex}, a ∈ l → cR a ≤ cR.depL l
 | b :: r, h => by
  rw [cR.depL]
  rcases List.mem_cons.1 h with rfl | h
  ·omega
  ·have := xF h; omega
theorem d9 {e a : Ex} (h : a ∈ e.args) : cR a < cR e := by
 cases e with
 | mk op name k w args => rw [cR]; exact Nat.lt_succ_of_le (xF h)
theorem mo {c : Sc} {e a : Ex} {w : Int} (h : dc c e = some w) (ha : a ∈ e.args) : ∃ w', dc c a = some w' := by
 obtain ⟨ws, h1, _⟩ := dq h
 obtain ⟨i, hi, rfl⟩ := List.mem_iff_getElem.1 ha
 have := (fb h1).2 i hi
 exact ⟨_, by simpa [List.getD, List.getElem?_eq_getElem hi] using this⟩
theorem rt {c : Sc} {e : Ex} {w : Int} (h : dc c e = some w) : e.args.length ≤ 3 := by
 obtain ⟨ws, h1, h2⟩ := dq h
 have hl := (fb h1).1
 rcases h2 with ⟨_, h2, _⟩ | ⟨_, h2, _⟩ | ⟨_, h2, _⟩ | ⟨_, _, _, h2, _⟩
 ·rw [h2] at hl; simp at hl; omega
 ·rw [h2] at hl; simp at hl; omega
 ·omega
 ·have := (iq h2).1
  have : ba e.op ≤ 3 := by unfold ba; split <;> (try split) <;> (try split) <;> (try split) <;> omega
  omega
theorem wF {c : Sc} {p : Pr} {s : Ps} {data : List Int} {e : Ex} {w : Int} (ho : mm c p s data) (h : dc c e = some w) (hop : e.op = 16) : 0 ≤ e.k.n ∧ e.k.n < s.regs.length ∧ e.k.n < p.regs.length := by
 obtain ⟨ws, h1, h2⟩ := dq h
 have a1 := ho.srl; have a2 := ho.prl
 rcases h2 with ⟨_, _, h3, h4, _⟩ | ⟨h, _⟩ | ⟨h, _⟩ | ⟨h, _⟩ <;> omega
theorem t3 {c : Sc} {p : Pr} {s : Ps} {data : List Int} {e : Ex} {w : Int} (ho : mm c p s data) (h : dc c e = some w) (hop : e.op = 18) : 0 ≤ e.k.n ∧ e.k.n < data.length ∧ e.k.n < p.takes.length := by
 obtain ⟨ws, h1, h2⟩ := dq h
 have a1 := ho.dl; have a2 := ho.ptl
 rcases h2 with ⟨h, _⟩ | ⟨_, _, h3, h4, _⟩ | ⟨h, _⟩ | ⟨_, _, h, _⟩ <;> omega
theorem t4 {c : Sc} {p : Pr} {s : Ps} {data : List Int} {e : Ex} {w : Int} (ho : mm c p s data) (h : dc c e = some w) (hop : e.op = 17) :
  0 ≤ e.k.n ∧ e.k.n < s.mems.length ∧ e.k.n < p.mems.length ∧ e.args.length = 1 ∧ 0 < (s.mems.getD e.k.n.toNat []).length ∧
   0 ≤ Int.tmod (aL p s data (e.args.getD 0 dE)).1 (s.mems.getD e.k.n.toNat []).length ∧ Int.tmod (aL p s data (e.args.getD 0 dE)).1 (s.mems.getD e.k.n.toNat []).length < (s.mems.getD e.k.n.toNat []).length := by
 obtain ⟨ws, h1, h2⟩ := dq h
 have a1 := ho.sml; have a2 := ho.pml
 obtain ⟨hl, hg⟩ := fb h1
 rcases h2 with ⟨h, _⟩ | ⟨h, _⟩ | ⟨_, h5, h3, h4, _⟩ | ⟨_, h, _⟩ <;> try omega
 have hn := ho.smn e.k.n.toNat (by omega)
 have a0 := (xE ho _ (e.args.getD 0 dE) _ (Nat.le_refl _) (hg 0 (by omega))).2.1.1
 refine ⟨by omega, by omega, by omega, by omega, hn, Int.tmod_nonneg _ a0, Int.tmod_lt_of_pos _ (by omega)⟩
theorem dY {p : Pr} {s : Ps} {data : List Int} {e : Ex} (h : e.op = 16) : (aL p s data e).1 = s.regs.getD e.k.n.toNat 0 ∧ (aL p s data e).2 = (p.regs.getD e.k.n.toNat aM).w := by
 rw [mj, if_pos h]; exact ⟨rfl, rfl⟩
theorem cH {p : Pr} {s : Ps} {data : List Int} {e : Ex} (h : e.op = 18) : (aL p s data e).1 = data.getD e.k.n.toNat 0 ∧ (aL p s data e).2 = (p.takes.getD e.k.n.toNat aX).w := by
 rw [mj, if_neg (by omega), if_pos h]; exact ⟨rfl, rfl⟩
theorem cI {p : Pr} {s : Ps} {data : List Int} {e : Ex} (h : e.op = 17) (hl : e.args.length = 1) : (aL p s data e).1 = (s.mems.getD e.k.n.toNat []).getD (Int.tmod (aL p s data (e.args.getD 0 dE)).1 (s.mems.getD e.k.n.toNat []).length).toNat 0 ∧ (aL p s data e).2 = (p.mems.getD e.k.n.toNat ax).w := by
 rw [mj, if_neg (by omega), if_neg (by omega), if_pos h, bB (aL p s data) e.args 0 dE (0, 0) (by omega)]; exact ⟨rfl, rfl⟩
def cb (p : Pr) (s : Ps) (data : List Int) (l : List Ex) : List Int := l.map fun a => (aL p s data a).1
def b7 (p : Pr) (s : Ps) (data : List Int) (l : List Ex) : List Int := l.map fun a => (aL p s data a).2
theorem gI {p : Pr} {s : Ps} {data : List Int} (l : List Ex) : (cb p s data l).length = l.length := by simp [cb]
theorem gJ {p : Pr} {s : Ps} {data : List Int} (l : List Ex) : (b7 p s data l).length = l.length := by simp [b7]
theorem oX {α : Type} {l : List α} {i : Nat} {d : α} (h : i < l.length) : l.take (i + 1) = l.take i ++ [l.getD i d] := by
 rw [List.take_succ_eq_append_getElem h]; simp [List.getD, List.getElem?_eq_getElem h]
theorem oY {p : Pr} {s : Ps} {data : List Int} {l : List Ex} {i : Nat} (h : i < l.length) : cb p s data (l.take (i + 1)) = cb p s data (l.take i) ++ [(aL p s data (l.getD i dE)).1] := by
 rw [oX (d := dE) h]; simp [cb]
theorem oZ {p : Pr} {s : Ps} {data : List Int} {l : List Ex} {i : Nat} (h : i < l.length) : b7 p s data (l.take (i + 1)) = b7 p s data (l.take i) ++ [(aL p s data (l.getD i dE)).2] := by
 rw [oX (d := dE) h]; simp [b7]
theorem fN {p : Pr} {s : Ps} {data : List Int} {e : Ex} (h1 : ¬e.op = 16) (h2 : ¬e.op = 18) (h3 : ¬e.op = 17) : (aL p s data e).1 = ca e.op (b7 p s data e.args) (cb p s data e.args) [e.k.n, e.w.n] ∧ (aL p s data e).2 = bl e.op (b7 p s data e.args) e.k.n e.w.n := by
 rw [mj, if_neg h1, if_neg h2, if_neg h3]
 simp only [cb, b7, List.map_map]
 exact ⟨rfl, rfl⟩
theorem co {l : List Ex} {i : Nat} (h : i < l.length) : l.getD i dE ∈ l := by simp [List.getD, List.getElem?_eq_getElem h]
end Go.Proofs.Ytgfbfajaaaegjaa
