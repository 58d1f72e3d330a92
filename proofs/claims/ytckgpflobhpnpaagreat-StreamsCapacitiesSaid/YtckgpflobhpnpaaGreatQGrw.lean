/-
  slices.Grow of no slice: a row of the call's own, of length 0.
-/
import Derived.Test.YtckgpflobhpnpaaGreatQNeC
import Derived.Test.YtckgpflobhpnpaaGreatQPrT
namespace Go.Proofs.YtckgpflobhpnpaaGreat
open Go.RowKit
set_option linter.unusedVariables false
set_option linter.unusedSimpArgs false
section
variable {c : Ci} {s e : Ns} {w : Nat → Bool}
theorem It (hc : aZ c) {p : Nat} (hp : p < c.procs.length) (h1 : fq c s p = true) (hw : w p = false) : fq c (bv c s w) p = true := by
 unfold fq; rw [(uW hc hp h1 hw).1]; exact h1
def gR (w : Nat → Bool) (P : Nat) : Nat → Bool := fun q => w q && decide (q < P)
theorem xN (hs : ja c s) : bv c s w = bv c s (gR w c.procs.length) := by
 have h1 : ∀ q, q < c.procs.length → ay c s w q = ay c s (gR w c.procs.length) q := fun q hq => by unfold ay gR; simp [hq]
 have e1 : tab (cM c s w) c.procs.length = tab (cM c s (gR w c.procs.length)) c.procs.length := ip (fun q hq => by unfold cM; rw [h1 q hq])
 have e2 : tab (dU c s w) c.chans.length = tab (dU c s (gR w c.procs.length)) c.chans.length := ip (fun n hn => by
  unfold dU
  have g1 : dT c s w n = dT c s (gR w c.procs.length) n := by
   unfold dT
   by_cases hd : gQ c n < c.procs.length
   ·rw [h1 _ hd]
   ·rw [zq (by omega)]; simp
  have g2 : cL c s w n = cL c s (gR w c.procs.length) n := by
   unfold cL
   by_cases hd : eO c n < c.procs.length
   ·rw [h1 _ hd]
   ·rw [my hd]; simp
  rw [g1, g2])
 unfold bv; rw [e1, e2]
end
def mB (f : Nat → Bool) : Nat → Int
 | 0 => -1
 | n + 1 => if dR (fun i => !f i) n = true then (if f n = true then n else -1) else mB f n
theorem pI {f : Nat → Bool} {i : Nat} (hf : f i = true) (h : ∀ z, z < i → f z = false) : ∀ {n : Nat}, i < n → mB f n = i
 | 0, h0 => absurd h0 (Nat.not_lt_zero _)
 | n + 1, h0 => by
  rw [mB]
  by_cases e : i = n
  ·subst e
   rw [if_pos (cH.2 (fun z hz => by rw [h z hz]; rfl)), if_pos hf]
  ·rw [if_neg (by rw [qC (show i < n by omega) (by simp [hf])]; simp), pI hf h (by omega)]
theorem wF {f : Nat → Bool} : ∀ {n : Nat}, (∀ z, z < n → f z = false) → mB f n = -1
 | 0, _ => rfl
 | n + 1, h => by
  rw [mB, if_pos (cH.2 (fun z hz => by rw [h z (by omega)]; rfl)), if_neg (by rw [h n (by omega)]; simp)]
theorem uX {f : Nat → Bool} : ∀ {n : Nat}, decide (0 ≤ mB f n) = !(dR (fun i => !f i) n)
 | 0 => rfl
 | n + 1 => by
  rw [mB]
  split
  ·rename_i h1
   rw [dR, h1]
   split
   ·rename_i h2; simp [h2]
   ·rename_i h2; simp [h2]
  ·rename_i h1
   rw [uX, dR]
   simp only [Bool.not_eq_true] at h1
   rw [h1]; rfl
def sZ (l : List Int) (w : Int) : Int := mB (fun i => !kK (l.getD i 0) w) l.length
theorem wG {l : List Int} {w : Int} : (!decide (0 ≤ sZ l w)) = zm l w := by
 unfold sZ zm
 rw [uX, Bool.not_not]
 exact congrArg (dR · _) (funext fun i => by rw [Bool.not_not])
theorem wH {ls : List (List Int)} {i : Nat} (h : i < ls.length) : (ls.take (i + 1)).flatten = (ls.take i).flatten ++ ls.getD i [] := by
 rw [List.take_succ_eq_append_getElem h, List.flatten_append]
 simp [List.getD, List.getElem?_eq_getElem h]
theorem xO {ls : List (List Int)} {i : Nat} : (ls.take i).flatten.length ≤ ls.flatten.length := by
 conv => rhs; rw [← List.take_append_drop i ls, List.flatten_append, List.length_append]
 omega
theorem F5 {ls : List (List Int)} {i : Nat} (h : ls.length ≤ i) : (ls.take i).flatten = ls.flatten := by rw [List.take_of_length_le h]
def ge (c : Ci) : Ns := ⟨tab (fun i => aP (a8 c i)) c.procs.length, List.replicate c.chans.length []⟩
theorem F6 {c : Ci} {s : Ns} {p m : Nat} (h : (cr c (tz (a8 c p) m)).dst = -1) : cJ c s p m = true := by unfold cJ; rw [decide_eq_true h]; rfl
theorem xP {c : Ci} {s : Ns} {p m : Nat} (h : ¬(cr c (tz (a8 c p) m)).dst = -1) : cJ c s p m = decide (((xK s (tz (a8 c p) m)).length : Int) < (cr c (tz (a8 c p) m)).cap) := by unfold cJ; rw [decide_eq_false h]; rfl
def MS (s : Ns) (k : Nat) : Prop := ∀ n, (xK s n).length ≤ k
theorem ah.of_empty {P : Program} {f : FuncId} {ar : List D} {E sz : Nat} {α : Type} {enc : α → List V} {d : α}
  (h : ∀ (S : Nat → Prop) (μ : Nat → Value) (w : World) (us : Array Value), aH S μ w ar us → Calls P f us w (fun e w' => ∃ v, e = .returned v ∧ w'.ownsRow 0 E sz v 0 [] ∧ w.grownBy w' none ∧ ∀ b, aE v = some b → w.heap.size ≤ b)) :
  ah P f ar [] false (.own 0) [.arr E sz enc d []] := by
 intro S μ w us hS _ hus
 refine (h S μ w us hus).mono ?_
 rintro e w' ⟨v, rfl, ho, hg, hb0⟩
 have hv1 : v.oneCell' = true := by rcases ho.2 with ⟨rfl, _⟩ | ⟨g, cap, cur, rfl, _⟩ <;> rfl
 have hb : ∀ b, bA v b → w.heap.size ≤ b := fun b h => hb0 b (h.bl hv1)
 have hB : aG S (fun _ => v) w' v (.arr E sz enc d []) := ⟨fun i x hx => by simp at hx, [], by simpa using ho, fun i x j y hx => by simp at hx⟩
 refine ⟨v, fun _ => v, S, rfl, hg.os, hg.tape, hg.output, hg.size, fun k hk _ => hg.block k hk (by simp), fun _ h => h, fun _ h => .inl h, fun b hb => Nat.lt_of_lt_of_le (hS b hb) hg.size, ?_, ⟨fun id B hB' => ?_, fun i j A B b hA hB' _ _ _ _ => ?_, fun i A b hA _ hbk hSb => ?_⟩, fun i A b hA _ hbk => .inl (hb b hbk), fun i A hA => by simp at hA⟩
 ·exact ai.own (μ := fun _ => v) 0
 ·cases id with
  | zero => simp at hB'; subst hB'; exact hB
  | succ id => simp at hB'
 ·have h1 : i = 0 := by cases i with | zero => rfl | succ i => simp at hA
  have h2 : j = 0 := by cases j with | zero => rfl | succ j => simp at hB'
  rw [h1, h2]
 ·have := hb b hbk
  have := hS b hSb
  omega
end Go.Proofs.YtckgpflobhpnpaaGreat
