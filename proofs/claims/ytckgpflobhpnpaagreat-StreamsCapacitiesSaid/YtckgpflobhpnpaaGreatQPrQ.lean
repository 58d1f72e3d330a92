/-
  Processes, plain law: values of expressions, widths, what a process does.
-/
import Derived.Test.YtckgpflobhpnpaaGreatQPrP
import Derived.Test.YtckgpflobhpnpaaGreatQPrR
namespace Go.Proofs.YtckgpflobhpnpaaGreat
open Go.RowKit
set_option linter.unusedVariables false
set_option linter.unusedSimpArgs false
def bx (p : Pr) (s : Ps) (data : List Int) : Ex → Int × Int
 | ⟨op, _, k, w, args⟩ =>
  if op = 16 then (s.regs.getD k.n.toNat 0, (p.regs.getD k.n.toNat co).w)
  else if op = 18 then (data.getD k.n.toNat 0, (p.takes.getD k.n.toNat aQ).w)
  else if op = 17 then ((s.mems.getD k.n.toNat []).getD (Int.tmod ((evL args).getD 0 (0, 0)).1 (s.mems.getD k.n.toNat []).length).toNat 0, (p.mems.getD k.n.toNat be).w)
  else (du op ((evL args).map (·.2)) ((evL args).map (·.1)) [k.n, w.n], ga op ((evL args).map (·.2)) k.n w.n)
where evL : List Ex → List (Int × Int)
 | [] => []
 | a :: r => bx p s data a :: evL r
theorem Cd {p : Pr} {s : Ps} {data : List Int} : ∀ (l : List Ex), bx.evL p s data l = l.map (bx p s data)
 | [] => rfl
 | a :: r => by rw [bx.evL, Cd r]; rfl
theorem pE (p : Pr) (s : Ps) (data : List Int) (e : Ex) : bx p s data e =
  if e.op = 16 then (s.regs.getD e.k.n.toNat 0, (p.regs.getD e.k.n.toNat co).w)
  else if e.op = 18 then (data.getD e.k.n.toNat 0, (p.takes.getD e.k.n.toNat aQ).w)
  else if e.op = 17 then ((s.mems.getD e.k.n.toNat []).getD (Int.tmod ((e.args.map (bx p s data)).getD 0 (0, 0)).1 (s.mems.getD e.k.n.toNat []).length).toNat 0, (p.mems.getD e.k.n.toNat be).w)
  else (du e.op ((e.args.map (bx p s data)).map (·.2)) ((e.args.map (bx p s data)).map (·.1)) [e.k.n, e.w.n], ga e.op ((e.args.map (bx p s data)).map (·.2)) e.k.n e.w.n) := by
 cases e with
 | mk op name k w args => rw [bx, Cd]
structure Sc where
 rw : List Int
 mw : List Int
 tw : List Int
def e9 (c : Sc) : Ex → Option Int
 | ⟨op, _, k, w, args⟩ => match tyL args with
  | none => none
  | some ws =>
   if op = 16 then (if ws = [] ∧ 0 ≤ k.n ∧ k.n < c.rw.length then some (c.rw.getD k.n.toNat 0) else none)
   else if op = 18 then (if ws = [] ∧ 0 ≤ k.n ∧ k.n < c.tw.length then some (c.tw.getD k.n.toNat 0) else none)
   else if op = 17 then (if ws.length = 1 ∧ 0 ≤ k.n ∧ k.n < c.mw.length then some (c.mw.getD k.n.toNat 0) else none)
   else if oi op ws k.n w.n then some (bg op ws k.n w.n) else none
where tyL : List Ex → Option (List Int)
 | [] => some []
 | a :: r => match e9 c a, tyL r with
  | some w, some ws => some (w :: ws)
  | _, _ => none
theorem ni {c : Sc} : ∀ {l : List Ex} {ws : List Int}, e9.tyL c l = some ws → ws.length = l.length ∧ ∀ i, i < l.length → e9 c (l.getD i dE) = some (ws.getD i 0)
 | [], ws, h => by rw [e9.tyL] at h; cases h; exact ⟨rfl, fun i hi => absurd hi (Nat.not_lt_zero _)⟩
 | a :: r, ws, h => by
  rw [e9.tyL] at h
  split at h
  ·rename_i w ws' h1 h2
   cases h
   obtain ⟨q1, q2⟩ := ni h2
   refine ⟨by simp [q1], fun i hi => ?_⟩
   cases i with
   | zero => exact h1
   | succ i => exact q2 i (by simpa using hi)
  ·cases h
theorem iG {c : Sc} {e : Ex} {w : Int} (h : e9 c e = some w) : ∃ ws, e9.tyL c e.args = some ws ∧
  ((e.op = 16 ∧ ws = [] ∧ 0 ≤ e.k.n ∧ e.k.n < c.rw.length ∧ w = c.rw.getD e.k.n.toNat 0) ∨ (e.op = 18 ∧ ws = [] ∧ 0 ≤ e.k.n ∧ e.k.n < c.tw.length ∧ w = c.tw.getD e.k.n.toNat 0) ∨
   (e.op = 17 ∧ ws.length = 1 ∧ 0 ≤ e.k.n ∧ e.k.n < c.mw.length ∧ w = c.mw.getD e.k.n.toNat 0) ∨ (e.op ≠ 16 ∧ e.op ≠ 17 ∧ e.op ≠ 18 ∧ oi e.op ws e.k.n e.w.n = true ∧ w = bg e.op ws e.k.n e.w.n)) := by
 cases e with
 | mk op name k w0 args =>
  rw [e9] at h
  split at h
  ·cases h
  ·rename_i ws hws
   refine ⟨ws, hws, ?_⟩
   split at h
   ·rename_i ho
    split at h
    ·rename_i hc; cases h; exact .inl ⟨ho, hc.1, hc.2.1, hc.2.2, rfl⟩
    ·cases h
   ·split at h
    ·rename_i ho
     split at h
     ·rename_i hc; cases h; exact .inr (.inl ⟨ho, hc.1, hc.2.1, hc.2.2, rfl⟩)
     ·cases h
    ·split at h
     ·rename_i ho
      split at h
      ·rename_i hc; cases h; exact .inr (.inr (.inl ⟨ho, hc.1, hc.2.1, hc.2.2, rfl⟩))
      ·cases h
     ·split at h
      ·rename_i h1 h2 h3 hc; cases h; exact .inr (.inr (.inr ⟨h1, h3, h2, hc, rfl⟩))
      ·cases h
structure xF (c : Sc) (p : Pr) (s : Ps) (data : List Int) : Prop where
 prl : p.regs.length = c.rw.length
 prw : ∀ i, i < c.rw.length → (p.regs.getD i co).w = c.rw.getD i 0
 pml : p.mems.length = c.mw.length
 pmw : ∀ i, i < c.mw.length → (p.mems.getD i be).w = c.mw.getD i 0
 ptl : p.takes.length = c.tw.length
 ptw : ∀ i, i < c.tw.length → (p.takes.getD i aQ).w = c.tw.getD i 0
 srl : s.regs.length = c.rw.length
 srv : ∀ i, i < c.rw.length → dn (s.regs.getD i 0) (c.rw.getD i 0)
 sml : s.mems.length = c.mw.length
 smn : ∀ i, i < c.mw.length → 0 < (s.mems.getD i []).length
 smv : ∀ i, i < c.mw.length → ∀ j, j < (s.mems.getD i []).length → dn ((s.mems.getD i []).getD j 0) (c.mw.getD i 0)
 dl : data.length = c.tw.length
 dv : ∀ i, i < c.tw.length → dn (data.getD i 0) (c.tw.getD i 0)
 rok : ∀ i, i < c.rw.length → av (c.rw.getD i 0) = true
 mok : ∀ i, i < c.mw.length → av (c.mw.getD i 0) = true
 tok : ∀ i, i < c.tw.length → av (c.tw.getD i 0) = true
theorem cU {α β : Type} (f : α → β) (l : List α) (i : Nat) (d : α) (d' : β) (h : i < l.length) : (l.map f).getD i d' = f (l.getD i d) := by
 simp [List.getD, List.getElem?_eq_getElem h]
theorem Cf {e : Ex} {i : Nat} (h : i < e.args.length) : fS (e.args.getD i dE) < fS e := by
 cases e with
 | mk op name k w args =>
  have key : ∀ (l : List Ex) (i : Nat), i < l.length → fS (l.getD i dE) ≤ fS.depL l := by
   intro l
   induction l with
   | nil => intro i hi; exact absurd hi (Nat.not_lt_zero _)
   | cons a r ih =>
    intro i hi
    rw [fS.depL]
    cases i with
    | zero => show fS a ≤ _; omega
    | succ i =>
     have := ih i (by simpa using hi)
     show fS (r.getD i dE) ≤ _
     omega
  have := key args i h
  rw [fS]
  exact Nat.lt_succ_of_le this
theorem Kd {l : List Int} {p : Int → Bool} (h : ∀ i, i < l.length → p (l.getD i 0) = true) : l.all p = true := by
 rw [List.all_eq_true]
 intro x hx
 obtain ⟨i, hi, rfl⟩ := List.mem_iff_getElem.1 hx
 have := h i hi
 simpa [List.getD, List.getElem?_eq_getElem hi] using this
theorem H8 {c : Sc} {p : Pr} {s : Ps} {data : List Int} {args : List Ex} {ws : List Int} (hl : ws.length = args.length)
  (h : ∀ i, i < args.length → (bx p s data (args.getD i dE)).2 = ws.getD i 0 ∧ dn (bx p s data (args.getD i dE)).1 (ws.getD i 0) ∧ av (ws.getD i 0) = true) :
  (args.map (bx p s data)).map (·.2) = ws ∧ ((args.map (bx p s data)).map (·.1)).length = ws.length ∧ DL ws ((args.map (bx p s data)).map (·.1)) = true ∧ ws.all av = true := by
 refine ⟨?_, by simp [hl], ?_, Kd (fun i hi => (h i (by omega)).2.2)⟩
 ·apply List.ext_getElem
  ·simp [hl]
  ·intro i h1 h2
   have := (h i (by omega)).1
   simp only [List.getElem_map]
   have e1 : args.getD i dE = args[i]'(by omega) := by simp [List.getD, List.getElem?_eq_getElem (show i < args.length by omega)]
   have e2 : ws.getD i 0 = ws[i] := by simp [List.getD, List.getElem?_eq_getElem h2]
   rw [e1, e2] at this
   exact this
 ·refine Ft (fun i hi => ?_)
  have hi' : i < args.length := by simpa using hi
  have := (h i hi').2.1
  rw [List.map_map, cU ((·.1) ∘ bx p s data) args i dE 0 hi']
  exact this
theorem Jg {c : Sc} {p : Pr} {s : Ps} {data : List Int} (ho : xF c p s data) : ∀ (n : Nat) (e : Ex) (w : Int), fS e ≤ n → e9 c e = some w → (bx p s data e).2 = w ∧ dn (bx p s data e).1 w ∧ av w = true := by
 intro n
 induction n with
 | zero => intro e w hd; cases e with | mk op name k w args => rw [fS] at hd; omega
 | succ n ih =>
  intro e w hd hty
  obtain ⟨ws, hws, hc⟩ := iG hty
  obtain ⟨hl, hget⟩ := ni hws
  have hargs : ∀ i, i < e.args.length → (bx p s data (e.args.getD i dE)).2 = ws.getD i 0 ∧ dn (bx p s data (e.args.getD i dE)).1 (ws.getD i 0) ∧ av (ws.getD i 0) = true := fun i hi => ih _ _ (by have := Cf hi; omega) (hget i hi)
  rw [pE]
  rcases hc with ⟨h1, h2, h3, h4, rfl⟩ | ⟨h1, h2, h3, h4, rfl⟩ | ⟨h1, h2, h3, h4, rfl⟩ | ⟨h1, h2, h2', h3, rfl⟩
  ·rw [if_pos h1]
   exact ⟨ho.prw _ (by omega), ho.srv _ (by omega), ho.rok _ (by omega)⟩
  ·rw [if_neg (by omega), if_pos h1]
   exact ⟨ho.ptw _ (by omega), ho.dv _ (by omega), ho.tok _ (by omega)⟩
  ·rw [if_neg (by omega), if_neg (by omega), if_pos h1]
   refine ⟨ho.pmw _ (by omega), ho.smv _ (by omega) _ ?_, ho.mok _ (by omega)⟩
   have hn := ho.smn e.k.n.toNat (by omega)
   have a0 := (hargs 0 (by omega)).2.1.1
   rw [cU (bx p s data) e.args 0 dE (0, 0) (by omega)]
   have := Int.tmod_lt_of_pos (bx p s data (e.args.getD 0 dE)).1 (show (0 : Int) < (s.mems.getD e.k.n.toNat []).length by omega)
   have h0 := Int.tmod_nonneg (((s.mems.getD e.k.n.toNat []).length : Nat) : Int) a0
   omega
  ·rw [if_neg h1, if_neg h2', if_neg h2]
   obtain ⟨q1, q2, q3, q4⟩ := H8 (c := c) hl hargs
   rw [q1]
   obtain ⟨r1, r2⟩ := DU (nums := [e.k.n, e.w.n]) h3 q2 q3 rfl rfl rfl
   refine ⟨?_, r2, ?_⟩
   ·unfold ga; rw [h3]; rfl
   ·exact (rN h3).2.2
theorem Cg {a : Ex} : ∀ {l : List Ex}, a ∈ l → fS a ≤ fS.depL l
 | b :: r, h => by
  rw [fS.depL]
  rcases List.mem_cons.1 h with rfl | h
  ·omega
  ·have := Cg h; omega
theorem Cj {e a : Ex} (h : a ∈ e.args) : fS a < fS e := by
 cases e with
 | mk op name k w args => rw [fS]; exact Nat.lt_succ_of_le (Cg h)
theorem Ke {c : Sc} {e a : Ex} {w : Int} (h : e9 c e = some w) (ha : a ∈ e.args) : ∃ w', e9 c a = some w' := by
 obtain ⟨ws, h1, _⟩ := iG h
 obtain ⟨i, hi, rfl⟩ := List.mem_iff_getElem.1 ha
 have := (ni h1).2 i hi
 exact ⟨_, by simpa [List.getD, List.getElem?_eq_getElem hi] using this⟩
theorem Kf {c : Sc} {e : Ex} {w : Int} (h : e9 c e = some w) : e.args.length ≤ 3 := by
 obtain ⟨ws, h1, h2⟩ := iG h
 have hl := (ni h1).1
 rcases h2 with ⟨_, h2, _⟩ | ⟨_, h2, _⟩ | ⟨_, h2, _⟩ | ⟨_, _, _, h2, _⟩
 ·rw [h2] at hl; simp at hl; omega
 ·rw [h2] at hl; simp at hl; omega
 ·omega
 ·have := (rN h2).1
  have : bC e.op ≤ 3 := by unfold bC; split <;> (try split) <;> (try split) <;> (try split) <;> omega
  omega
theorem Kg {c : Sc} {p : Pr} {s : Ps} {data : List Int} {e : Ex} {w : Int} (ho : xF c p s data) (h : e9 c e = some w) (hop : e.op = 16) : 0 ≤ e.k.n ∧ e.k.n < s.regs.length ∧ e.k.n < p.regs.length := by
 obtain ⟨ws, h1, h2⟩ := iG h
 have a1 := ho.srl; have a2 := ho.prl
 rcases h2 with ⟨_, _, h3, h4, _⟩ | ⟨h, _⟩ | ⟨h, _⟩ | ⟨h, _⟩ <;> omega
theorem H9 {c : Sc} {p : Pr} {s : Ps} {data : List Int} {e : Ex} {w : Int} (ho : xF c p s data) (h : e9 c e = some w) (hop : e.op = 18) : 0 ≤ e.k.n ∧ e.k.n < data.length ∧ e.k.n < p.takes.length := by
 obtain ⟨ws, h1, h2⟩ := iG h
 have a1 := ho.dl; have a2 := ho.ptl
 rcases h2 with ⟨h, _⟩ | ⟨_, _, h3, h4, _⟩ | ⟨h, _⟩ | ⟨_, _, h, _⟩ <;> omega
theorem Ia {c : Sc} {p : Pr} {s : Ps} {data : List Int} {e : Ex} {w : Int} (ho : xF c p s data) (h : e9 c e = some w) (hop : e.op = 17) :
  0 ≤ e.k.n ∧ e.k.n < s.mems.length ∧ e.k.n < p.mems.length ∧ e.args.length = 1 ∧ 0 < (s.mems.getD e.k.n.toNat []).length ∧
   0 ≤ Int.tmod (bx p s data (e.args.getD 0 dE)).1 (s.mems.getD e.k.n.toNat []).length ∧ Int.tmod (bx p s data (e.args.getD 0 dE)).1 (s.mems.getD e.k.n.toNat []).length < (s.mems.getD e.k.n.toNat []).length := by
 obtain ⟨ws, h1, h2⟩ := iG h
 have a1 := ho.sml; have a2 := ho.pml
 obtain ⟨hl, hg⟩ := ni h1
 rcases h2 with ⟨h, _⟩ | ⟨h, _⟩ | ⟨_, h5, h3, h4, _⟩ | ⟨_, h, _⟩ <;> try omega
 have hn := ho.smn e.k.n.toNat (by omega)
 have a0 := (Jg ho _ (e.args.getD 0 dE) _ (Nat.le_refl _) (hg 0 (by omega))).2.1.1
 refine ⟨by omega, by omega, by omega, by omega, hn, Int.tmod_nonneg _ a0, Int.tmod_lt_of_pos _ (by omega)⟩
theorem mj {p : Pr} {s : Ps} {data : List Int} {e : Ex} (h : e.op = 16) : (bx p s data e).1 = s.regs.getD e.k.n.toNat 0 ∧ (bx p s data e).2 = (p.regs.getD e.k.n.toNat co).w := by
 rw [pE, if_pos h]; exact ⟨rfl, rfl⟩
theorem jm {p : Pr} {s : Ps} {data : List Int} {e : Ex} (h : e.op = 18) : (bx p s data e).1 = data.getD e.k.n.toNat 0 ∧ (bx p s data e).2 = (p.takes.getD e.k.n.toNat aQ).w := by
 rw [pE, if_neg (by omega), if_pos h]; exact ⟨rfl, rfl⟩
theorem jn {p : Pr} {s : Ps} {data : List Int} {e : Ex} (h : e.op = 17) (hl : e.args.length = 1) : (bx p s data e).1 = (s.mems.getD e.k.n.toNat []).getD (Int.tmod (bx p s data (e.args.getD 0 dE)).1 (s.mems.getD e.k.n.toNat []).length).toNat 0 ∧ (bx p s data e).2 = (p.mems.getD e.k.n.toNat be).w := by
 rw [pE, if_neg (by omega), if_neg (by omega), if_pos h, cU (bx p s data) e.args 0 dE (0, 0) (by omega)]; exact ⟨rfl, rfl⟩
def lF (p : Pr) (s : Ps) (data : List Int) (l : List Ex) : List Int := l.map fun a => (bx p s data a).1
def iH (p : Pr) (s : Ps) (data : List Int) (l : List Ex) : List Int := l.map fun a => (bx p s data a).2
theorem FH {p : Pr} {s : Ps} {data : List Int} (l : List Ex) : (lF p s data l).length = l.length := by simp [lF]
theorem zd {p : Pr} {s : Ps} {data : List Int} (l : List Ex) : (iH p s data l).length = l.length := by simp [iH]
theorem wv {α : Type} {l : List α} {i : Nat} {d : α} (h : i < l.length) : l.take (i + 1) = l.take i ++ [l.getD i d] := by
 rw [List.take_succ_eq_append_getElem h]; simp [List.getD, List.getElem?_eq_getElem h]
theorem DV {p : Pr} {s : Ps} {data : List Int} {l : List Ex} {i : Nat} (h : i < l.length) : lF p s data (l.take (i + 1)) = lF p s data (l.take i) ++ [(bx p s data (l.getD i dE)).1] := by
 rw [wv (d := dE) h]; simp [lF]
theorem DW {p : Pr} {s : Ps} {data : List Int} {l : List Ex} {i : Nat} (h : i < l.length) : iH p s data (l.take (i + 1)) = iH p s data (l.take i) ++ [(bx p s data (l.getD i dE)).2] := by
 rw [wv (d := dE) h]; simp [iH]
theorem sG {p : Pr} {s : Ps} {data : List Int} {e : Ex} (h1 : ¬e.op = 16) (h2 : ¬e.op = 18) (h3 : ¬e.op = 17) : (bx p s data e).1 = du e.op (iH p s data e.args) (lF p s data e.args) [e.k.n, e.w.n] ∧ (bx p s data e).2 = ga e.op (iH p s data e.args) e.k.n e.w.n := by
 rw [pE, if_neg h1, if_neg h2, if_neg h3]
 simp only [lF, iH, List.map_map]
 exact ⟨rfl, rfl⟩
theorem nj {l : List Ex} {i : Nat} (h : i < l.length) : l.getD i dE ∈ l := by simp [List.getD, List.getElem?_eq_getElem h]
end Go.Proofs.YtckgpflobhpnpaaGreat
