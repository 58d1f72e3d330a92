/-
  Processes, plain law: values of expressions, widths, what a process does.
-/
import Derived.Test.YtckgpflobhpnpaaQPrP
import Derived.Test.YtckgpflobhpnpaaQPrR
namespace Go.Proofs.Ytckgpflobhpnpaa
open Go.RowKit
set_option linter.unusedVariables false
set_option linter.unusedSimpArgs false
def bo (p : Pr) (s : Ps) (data : List Int) : Ex → Int × Int
 | ⟨op, _, k, w, args⟩ =>
  if op = 16 then (s.regs.getD k.n.toNat 0, (p.regs.getD k.n.toNat eD).w)
  else if op = 18 then (data.getD k.n.toNat 0, (p.takes.getD k.n.toNat aQ).w)
  else if op = 17 then ((s.mems.getD k.n.toNat []).getD (Int.tmod ((evL args).getD 0 (0, 0)).1 (s.mems.getD k.n.toNat []).length).toNat 0, (p.mems.getD k.n.toNat bh).w)
  else (db op ((evL args).map (·.2)) ((evL args).map (·.1)) [k.n, w.n], fA op ((evL args).map (·.2)) k.n w.n)
where evL : List Ex → List (Int × Int)
 | [] => []
 | a :: r => bo p s data a :: evL r
theorem z6 {p : Pr} {s : Ps} {data : List Int} : ∀ (l : List Ex), bo.evL p s data l = l.map (bo p s data)
 | [] => rfl
 | a :: r => by rw [bo.evL, z6 r]; rfl
theorem od (p : Pr) (s : Ps) (data : List Int) (e : Ex) : bo p s data e =
  if e.op = 16 then (s.regs.getD e.k.n.toNat 0, (p.regs.getD e.k.n.toNat eD).w)
  else if e.op = 18 then (data.getD e.k.n.toNat 0, (p.takes.getD e.k.n.toNat aQ).w)
  else if e.op = 17 then ((s.mems.getD e.k.n.toNat []).getD (Int.tmod ((e.args.map (bo p s data)).getD 0 (0, 0)).1 (s.mems.getD e.k.n.toNat []).length).toNat 0, (p.mems.getD e.k.n.toNat bh).w)
  else (db e.op ((e.args.map (bo p s data)).map (·.2)) ((e.args.map (bo p s data)).map (·.1)) [e.k.n, e.w.n], fA e.op ((e.args.map (bo p s data)).map (·.2)) e.k.n e.w.n) := by
 cases e with
 | mk op name k w args => rw [bo, z6]
structure Sc where
 rw : List Int
 mw : List Int
 tw : List Int
def kI (c : Sc) : Ex → Option Int
 | ⟨op, _, k, w, args⟩ => match tyL args with
  | none => none
  | some ws =>
   if op = 16 then (if ws = [] ∧ 0 ≤ k.n ∧ k.n < c.rw.length then some (c.rw.getD k.n.toNat 0) else none)
   else if op = 18 then (if ws = [] ∧ 0 ≤ k.n ∧ k.n < c.tw.length then some (c.tw.getD k.n.toNat 0) else none)
   else if op = 17 then (if ws.length = 1 ∧ 0 ≤ k.n ∧ k.n < c.mw.length then some (c.mw.getD k.n.toNat 0) else none)
   else if uA op ws k.n w.n then some (bj op ws k.n w.n) else none
where tyL : List Ex → Option (List Int)
 | [] => some []
 | a :: r => match kI c a, tyL r with
  | some w, some ws => some (w :: ws)
  | _, _ => none
theorem mh {c : Sc} : ∀ {l : List Ex} {ws : List Int}, kI.tyL c l = some ws → ws.length = l.length ∧ ∀ i, i < l.length → kI c (l.getD i dE) = some (ws.getD i 0)
 | [], ws, h => by rw [kI.tyL] at h; cases h; exact ⟨rfl, fun i hi => absurd hi (Nat.not_lt_zero _)⟩
 | a :: r, ws, h => by
  rw [kI.tyL] at h
  split at h
  ·rename_i w ws' h1 h2
   cases h
   obtain ⟨q1, q2⟩ := mh h2
   refine ⟨by simp [q1], fun i hi => ?_⟩
   cases i with
   | zero => exact h1
   | succ i => exact q2 i (by simpa using hi)
  ·cases h
theorem hJ {c : Sc} {e : Ex} {w : Int} (h : kI c e = some w) : ∃ ws, kI.tyL c e.args = some ws ∧
  ((e.op = 16 ∧ ws = [] ∧ 0 ≤ e.k.n ∧ e.k.n < c.rw.length ∧ w = c.rw.getD e.k.n.toNat 0) ∨ (e.op = 18 ∧ ws = [] ∧ 0 ≤ e.k.n ∧ e.k.n < c.tw.length ∧ w = c.tw.getD e.k.n.toNat 0) ∨
   (e.op = 17 ∧ ws.length = 1 ∧ 0 ≤ e.k.n ∧ e.k.n < c.mw.length ∧ w = c.mw.getD e.k.n.toNat 0) ∨ (e.op ≠ 16 ∧ e.op ≠ 17 ∧ e.op ≠ 18 ∧ uA e.op ws e.k.n e.w.n = true ∧ w = bj e.op ws e.k.n e.w.n)) := by
 cases e with
 | mk op name k w0 args =>
  rw [kI] at h
  split at h
  ·cases h
  ·rename_i ws hws
   refine ⟨ws, hws, ?_⟩
   split at h
   ·rename_i ho
    split at h
    ·rename_i hc; cases h; exact .inl ⟨ho, hc.1, hc.2.1, hc.2.2, rfl⟩
    ·cases h
   ·split at h
    ·rename_i ho
     split at h
     ·rename_i hc; cases h; exact .inr (.inl ⟨ho, hc.1, hc.2.1, hc.2.2, rfl⟩)
     ·cases h
    ·split at h
     ·rename_i ho
      split at h
      ·rename_i hc; cases h; exact .inr (.inr (.inl ⟨ho, hc.1, hc.2.1, hc.2.2, rfl⟩))
      ·cases h
     ·split at h
      ·rename_i h1 h2 h3 hc; cases h; exact .inr (.inr (.inr ⟨h1, h3, h2, hc, rfl⟩))
      ·cases h
structure vR (c : Sc) (p : Pr) (s : Ps) (data : List Int) : Prop where
 prl : p.regs.length = c.rw.length
 prw : ∀ i, i < c.rw.length → (p.regs.getD i eD).w = c.rw.getD i 0
 pml : p.mems.length = c.mw.length
 pmw : ∀ i, i < c.mw.length → (p.mems.getD i bh).w = c.mw.getD i 0
 ptl : p.takes.length = c.tw.length
 ptw : ∀ i, i < c.tw.length → (p.takes.getD i aQ).w = c.tw.getD i 0
 srl : s.regs.length = c.rw.length
 srv : ∀ i, i < c.rw.length → dM (s.regs.getD i 0) (c.rw.getD i 0)
 sml : s.mems.length = c.mw.length
 smn : ∀ i, i < c.mw.length → 0 < (s.mems.getD i []).length
 smv : ∀ i, i < c.mw.length → ∀ j, j < (s.mems.getD i []).length → dM ((s.mems.getD i []).getD j 0) (c.mw.getD i 0)
 dl : data.length = c.tw.length
 dv : ∀ i, i < c.tw.length → dM (data.getD i 0) (c.tw.getD i 0)
 rok : ∀ i, i < c.rw.length → aw (c.rw.getD i 0) = true
 mok : ∀ i, i < c.mw.length → aw (c.mw.getD i 0) = true
 tok : ∀ i, i < c.tw.length → aw (c.tw.getD i 0) = true
theorem c8 {α β : Type} (f : α → β) (l : List α) (i : Nat) (d : α) (d' : β) (h : i < l.length) : (l.map f).getD i d' = f (l.getD i d) := by
 simp [List.getD, List.getElem?_eq_getElem h]
theorem z9 {e : Ex} {i : Nat} (h : i < e.args.length) : mf (e.args.getD i dE) < mf e := by
 cases e with
 | mk op name k w args =>
  have key : ∀ (l : List Ex) (i : Nat), i < l.length → mf (l.getD i dE) ≤ mf.depL l := by
   intro l
   induction l with
   | nil => intro i hi; exact absurd hi (Nat.not_lt_zero _)
   | cons a r ih =>
    intro i hi
    rw [mf.depL]
    cases i with
    | zero => show mf a ≤ _; omega
    | succ i =>
     have := ih i (by simpa using hi)
     show mf (r.getD i dE) ≤ _
     omega
  have := key args i h
  rw [mf]
  exact Nat.lt_succ_of_le this
theorem GT {l : List Int} {p : Int → Bool} (h : ∀ i, i < l.length → p (l.getD i 0) = true) : l.all p = true := by
 rw [List.all_eq_true]
 intro x hx
 obtain ⟨i, hi, rfl⟩ := List.mem_iff_getElem.1 hx
 have := h i hi
 simpa [List.getD, List.getElem?_eq_getElem hi] using this
theorem E6 {c : Sc} {p : Pr} {s : Ps} {data : List Int} {args : List Ex} {ws : List Int} (hl : ws.length = args.length)
  (h : ∀ i, i < args.length → (bo p s data (args.getD i dE)).2 = ws.getD i 0 ∧ dM (bo p s data (args.getD i dE)).1 (ws.getD i 0) ∧ aw (ws.getD i 0) = true) :
  (args.map (bo p s data)).map (·.2) = ws ∧ ((args.map (bo p s data)).map (·.1)).length = ws.length ∧ Bf ws ((args.map (bo p s data)).map (·.1)) = true ∧ ws.all aw = true := by
 refine ⟨?_, by simp [hl], ?_, GT (fun i hi => (h i (by omega)).2.2)⟩
 ·apply List.ext_getElem
  ·simp [hl]
  ·intro i h1 h2
   have := (h i (by omega)).1
   simp only [List.getElem_map]
   have e1 : args.getD i dE = args[i]'(by omega) := by simp [List.getD, List.getElem?_eq_getElem (show i < args.length by omega)]
   have e2 : ws.getD i 0 = ws[i] := by simp [List.getD, List.getElem?_eq_getElem h2]
   rw [e1, e2] at this
   exact this
 ·refine CQ (fun i hi => ?_)
  have hi' : i < args.length := by simpa using hi
  have := (h i hi').2.1
  rw [List.map_map, c8 ((·.1) ∘ bo p s data) args i dE 0 hi']
  exact this
theorem F1 {c : Sc} {p : Pr} {s : Ps} {data : List Int} (ho : vR c p s data) : ∀ (n : Nat) (e : Ex) (w : Int), mf e ≤ n → kI c e = some w → (bo p s data e).2 = w ∧ dM (bo p s data e).1 w ∧ aw w = true := by
 intro n
 induction n with
 | zero => intro e w hd; cases e with | mk op name k w args => rw [mf] at hd; omega
 | succ n ih =>
  intro e w hd hty
  obtain ⟨ws, hws, hc⟩ := hJ hty
  obtain ⟨hl, hget⟩ := mh hws
  have hargs : ∀ i, i < e.args.length → (bo p s data (e.args.getD i dE)).2 = ws.getD i 0 ∧ dM (bo p s data (e.args.getD i dE)).1 (ws.getD i 0) ∧ aw (ws.getD i 0) = true := fun i hi => ih _ _ (by have := z9 hi; omega) (hget i hi)
  rw [od]
  rcases hc with ⟨h1, h2, h3, h4, rfl⟩ | ⟨h1, h2, h3, h4, rfl⟩ | ⟨h1, h2, h3, h4, rfl⟩ | ⟨h1, h2, h2', h3, rfl⟩
  ·rw [if_pos h1]
   exact ⟨ho.prw _ (by omega), ho.srv _ (by omega), ho.rok _ (by omega)⟩
  ·rw [if_neg (by omega), if_pos h1]
   exact ⟨ho.ptw _ (by omega), ho.dv _ (by omega), ho.tok _ (by omega)⟩
  ·rw [if_neg (by omega), if_neg (by omega), if_pos h1]
   refine ⟨ho.pmw _ (by omega), ho.smv _ (by omega) _ ?_, ho.mok _ (by omega)⟩
   have hn := ho.smn e.k.n.toNat (by omega)
   have a0 := (hargs 0 (by omega)).2.1.1
   rw [c8 (bo p s data) e.args 0 dE (0, 0) (by omega)]
   have := Int.tmod_lt_of_pos (bo p s data (e.args.getD 0 dE)).1 (show (0 : Int) < (s.mems.getD e.k.n.toNat []).length by omega)
   have h0 := Int.tmod_nonneg (((s.mems.getD e.k.n.toNat []).length : Nat) : Int) a0
   omega
  ·rw [if_neg h1, if_neg h2', if_neg h2]
   obtain ⟨q1, q2, q3, q4⟩ := E6 (c := c) hl hargs
   rw [q1]
   obtain ⟨r1, r2⟩ := Bn (nums := [e.k.n, e.w.n]) h3 q2 q3 rfl rfl rfl
   refine ⟨?_, r2, ?_⟩
   ·unfold fA; rw [h3]; rfl
   ·exact (qo h3).2.2
theorem Aa {a : Ex} : ∀ {l : List Ex}, a ∈ l → mf a ≤ mf.depL l
 | b :: r, h => by
  rw [mf.depL]
  rcases List.mem_cons.1 h with rfl | h
  ·omega
  ·have := Aa h; omega
theorem Ab {e a : Ex} (h : a ∈ e.args) : mf a < mf e := by
 cases e with
 | mk op name k w args => rw [mf]; exact Nat.lt_succ_of_le (Aa h)
theorem GU {c : Sc} {e a : Ex} {w : Int} (h : kI c e = some w) (ha : a ∈ e.args) : ∃ w', kI c a = some w' := by
 obtain ⟨ws, h1, _⟩ := hJ h
 obtain ⟨i, hi, rfl⟩ := List.mem_iff_getElem.1 ha
 have := (mh h1).2 i hi
 exact ⟨_, by simpa [List.getD, List.getElem?_eq_getElem hi] using this⟩
theorem GV {c : Sc} {e : Ex} {w : Int} (h : kI c e = some w) : e.args.length ≤ 3 := by
 obtain ⟨ws, h1, h2⟩ := hJ h
 have hl := (mh h1).1
 rcases h2 with ⟨_, h2, _⟩ | ⟨_, h2, _⟩ | ⟨_, h2, _⟩ | ⟨_, _, _, h2, _⟩
 ·rw [h2] at hl; simp at hl; omega
 ·rw [h2] at hl; simp at hl; omega
 ·omega
 ·have := (qo h2).1
  have : bB e.op ≤ 3 := by unfold bB; split <;> (try split) <;> (try split) <;> (try split) <;> omega
  omega
theorem GW {c : Sc} {p : Pr} {s : Ps} {data : List Int} {e : Ex} {w : Int} (ho : vR c p s data) (h : kI c e = some w) (hop : e.op = 16) : 0 ≤ e.k.n ∧ e.k.n < s.regs.length ∧ e.k.n < p.regs.length := by
 obtain ⟨ws, h1, h2⟩ := hJ h
 have a1 := ho.srl; have a2 := ho.prl
 rcases h2 with ⟨_, _, h3, h4, _⟩ | ⟨h, _⟩ | ⟨h, _⟩ | ⟨h, _⟩ <;> omega
theorem E7 {c : Sc} {p : Pr} {s : Ps} {data : List Int} {e : Ex} {w : Int} (ho : vR c p s data) (h : kI c e = some w) (hop : e.op = 18) : 0 ≤ e.k.n ∧ e.k.n < data.length ∧ e.k.n < p.takes.length := by
 obtain ⟨ws, h1, h2⟩ := hJ h
 have a1 := ho.dl; have a2 := ho.ptl
 rcases h2 with ⟨h, _⟩ | ⟨_, _, h3, h4, _⟩ | ⟨h, _⟩ | ⟨_, _, h, _⟩ <;> omega
theorem E8 {c : Sc} {p : Pr} {s : Ps} {data : List Int} {e : Ex} {w : Int} (ho : vR c p s data) (h : kI c e = some w) (hop : e.op = 17) :
  0 ≤ e.k.n ∧ e.k.n < s.mems.length ∧ e.k.n < p.mems.length ∧ e.args.length = 1 ∧ 0 < (s.mems.getD e.k.n.toNat []).length ∧
   0 ≤ Int.tmod (bo p s data (e.args.getD 0 dE)).1 (s.mems.getD e.k.n.toNat []).length ∧ Int.tmod (bo p s data (e.args.getD 0 dE)).1 (s.mems.getD e.k.n.toNat []).length < (s.mems.getD e.k.n.toNat []).length := by
 obtain ⟨ws, h1, h2⟩ := hJ h
 have a1 := ho.sml; have a2 := ho.pml
 obtain ⟨hl, hg⟩ := mh h1
 rcases h2 with ⟨h, _⟩ | ⟨h, _⟩ | ⟨_, h5, h3, h4, _⟩ | ⟨_, h, _⟩ <;> try omega
 have hn := ho.smn e.k.n.toNat (by omega)
 have a0 := (F1 ho _ (e.args.getD 0 dE) _ (Nat.le_refl _) (hg 0 (by omega))).2.1.1
 refine ⟨by omega, by omega, by omega, by omega, hn, Int.tmod_nonneg _ a0, Int.tmod_lt_of_pos _ (by omega)⟩
theorem lm {p : Pr} {s : Ps} {data : List Int} {e : Ex} (h : e.op = 16) : (bo p s data e).1 = s.regs.getD e.k.n.toNat 0 ∧ (bo p s data e).2 = (p.regs.getD e.k.n.toNat eD).w := by
 rw [od, if_pos h]; exact ⟨rfl, rfl⟩
theorem iR {p : Pr} {s : Ps} {data : List Int} {e : Ex} (h : e.op = 18) : (bo p s data e).1 = data.getD e.k.n.toNat 0 ∧ (bo p s data e).2 = (p.takes.getD e.k.n.toNat aQ).w := by
 rw [od, if_neg (by omega), if_pos h]; exact ⟨rfl, rfl⟩
theorem iT {p : Pr} {s : Ps} {data : List Int} {e : Ex} (h : e.op = 17) (hl : e.args.length = 1) : (bo p s data e).1 = (s.mems.getD e.k.n.toNat []).getD (Int.tmod (bo p s data (e.args.getD 0 dE)).1 (s.mems.getD e.k.n.toNat []).length).toNat 0 ∧ (bo p s data e).2 = (p.mems.getD e.k.n.toNat bh).w := by
 rw [od, if_neg (by omega), if_neg (by omega), if_pos h, c8 (bo p s data) e.args 0 dE (0, 0) (by omega)]; exact ⟨rfl, rfl⟩
def kJ (p : Pr) (s : Ps) (data : List Int) (l : List Ex) : List Int := l.map fun a => (bo p s data a).1
def hT (p : Pr) (s : Ps) (data : List Int) (l : List Ex) : List Int := l.map fun a => (bo p s data a).2
theorem C4 {p : Pr} {s : Ps} {data : List Int} (l : List Ex) : (kJ p s data l).length = l.length := by simp [kJ]
theorem xl {p : Pr} {s : Ps} {data : List Int} (l : List Ex) : (hT p s data l).length = l.length := by simp [hT]
theorem uH {α : Type} {l : List α} {i : Nat} {d : α} (h : i < l.length) : l.take (i + 1) = l.take i ++ [l.getD i d] := by
 rw [List.take_succ_eq_append_getElem h]; simp [List.getD, List.getElem?_eq_getElem h]
theorem Bo {p : Pr} {s : Ps} {data : List Int} {l : List Ex} {i : Nat} (h : i < l.length) : kJ p s data (l.take (i + 1)) = kJ p s data (l.take i) ++ [(bo p s data (l.getD i dE)).1] := by
 rw [uH (d := dE) h]; simp [kJ]
theorem Bp {p : Pr} {s : Ps} {data : List Int} {l : List Ex} {i : Nat} (h : i < l.length) : hT p s data (l.take (i + 1)) = hT p s data (l.take i) ++ [(bo p s data (l.getD i dE)).2] := by
 rw [uH (d := dE) h]; simp [hT]
theorem qS {p : Pr} {s : Ps} {data : List Int} {e : Ex} (h1 : ¬e.op = 16) (h2 : ¬e.op = 18) (h3 : ¬e.op = 17) : (bo p s data e).1 = db e.op (hT p s data e.args) (kJ p s data e.args) [e.k.n, e.w.n] ∧ (bo p s data e).2 = fA e.op (hT p s data e.args) e.k.n e.w.n := by
 rw [od, if_neg h1, if_neg h2, if_neg h3]
 simp only [kJ, hT, List.map_map]
 exact ⟨rfl, rfl⟩
theorem uI {l : List Ex} {i : Nat} (h : i < l.length) : l.getD i dE ∈ l := by simp [List.getD, List.getElem?_eq_getElem h]
end Go.Proofs.Ytckgpflobhpnpaa
