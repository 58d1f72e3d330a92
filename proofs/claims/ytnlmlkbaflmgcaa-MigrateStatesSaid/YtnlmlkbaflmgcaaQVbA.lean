/-
  Package bits: widths and values of operations.
-/
import Derived.Test.YtnlmlkbaflmgcaaQNeB
import Derived.Test.YtnlmlkbaflmgcaaProg
namespace Go.Proofs.Ytnlmlkbaflmgcaa
open Go.RowKit
set_option linter.unusedVariables false
set_option linter.unusedSimpArgs false
theorem zQ (bs : ByteArray) : ∀ (n i : Nat) (r : List UInt8), bs.size - i = n → ByteArray.toList.loop bs i r = r.reverse ++ bs.data.toList.drop i
 | 0, i, r, h => by
  unfold ByteArray.toList.loop
  rw [if_neg (by omega), List.drop_eq_nil_of_le (by show bs.data.toList.length ≤ i; rw [Array.length_toList]; have : bs.data.size = bs.size := rfl; omega), List.append_nil]
 | n + 1, i, r, h => by
  unfold ByteArray.toList.loop
  have hi : i < bs.size := by omega
  have hi2 : i < bs.data.toList.length := by rw [Array.length_toList]; exact hi
  rw [if_pos hi, zQ bs n (i + 1) _ (by omega), List.drop_eq_getElem_cons hi2]
  have e : bs.get! i = bs.data.toList[i] := by
   show bs.data[i]! = _
   rw [getElem!_pos bs.data i hi]; simp
  rw [e]; simp
theorem zR (bs : ByteArray) : bs.toList = bs.data.toList := by
 unfold ByteArray.toList
 rw [zQ bs _ 0 [] rfl]; simp
theorem toList_inj {a b : ByteArray} (h : a.toList = b.toList) : a = b := by
 rw [zR, zR] at h
 cases a; cases b
 simp only [Array.toList_inj] at h
 rw [h]
def bW (b : List (ByteArray × Int)) (f : Nat → ByteArray) : Nat → List (ByteArray × Int)
 | 0 => b
 | i + 1 => dp (bW b f i) (f i) (i : Int)
def a6 (c : Ci) (i : Nat) : ByteArray := (c.chans.getD i ax).name
def l5 (p : Pr) (i : Nat) : ByteArray := (p.regs.getD i aO).name
def sY (p : Pr) (i : Nat) : ByteArray := (p.mems.getD i aB).name
def kg (c : Ci) (i : Nat) : ByteArray := (c.procs.getD i af).name
structure pV where
 p : Pr
 s : Ps
 regs : List (ByteArray × Int)
 mems : List (ByteArray × Int)
abbrev ba : pV := ⟨af, aZ, [], []⟩
def kF (r : pV) : List V := [.str r.p.name, .str r.p.clock, .sl 13 bM aO r.p.regs, .sl 27 cj aB r.p.mems, .sl 9 dJ bO r.p.takes, .sl 16 dD bV r.p.puts, .sl 1 (aa .i64) 0 r.s.regs, .sl 1 ac [] r.s.mems, .sm false (aa .i64) 0 r.regs, .sm false (aa .i64) 0 r.mems]
def dZ (c : Ci) (s : Ns) (i : Nat) : pV := ⟨c.procs.getD i af, s.procs.getD i aZ, bW [] (l5 (c.procs.getD i af)) (c.procs.getD i af).regs.length, bW [] (sY (c.procs.getD i af)) (c.procs.getD i af).mems.length⟩
def bc (c : Ci) (s : Ns) : Nat → List (ByteArray × pV)
 | 0 => []
 | i + 1 => dp (bc c s i) (kg c i) (dZ c s i)
theorem ew {α : Type _} (d x : α) (k k' : ByteArray) : ∀ l : List (ByteArray × α), ah d (dp l k x) k' = if k' = k then x else ah d l k'
 | [] => rfl
 | (q, y) :: r => by
  rw [dp]
  split
  ·rename_i h
   subst h
   rw [ah, ah]
   split <;> rfl
  ·rename_i h
   rw [ah, ah, ew d x k k' r]
   by_cases h1 : k' = q
   ·rw [if_pos h1, if_pos h1, if_neg (fun h2 => h (h2.symm.trans h1))]
   ·rw [if_neg h1, if_neg h1]
theorem pz {α : Type _} (x : α) (k k' : ByteArray) : ∀ l : List (ByteArray × α), aW (dp l k x) k' = if k' = k then true else aW l k'
 | [] => rfl
 | (q, y) :: r => by
  rw [dp]
  split
  ·rename_i h
   subst h
   rw [aW, aW]
   split <;> rfl
  ·rename_i h
   rw [aW, aW, pz x k k' r]
   by_cases h1 : k' = q
   ·rw [if_pos h1, if_pos h1, if_neg (fun h2 => h (h2.symm.trans h1))]
   ·rw [if_neg h1, if_neg h1]
theorem yw {f : Nat → ByteArray} {k : ByteArray} : ∀ (n : Nat), aW (bW [] f n) k = true ↔ ∃ j, j < n ∧ f j = k
 | 0 => ⟨fun h => by simp [bW, aW] at h, fun ⟨j, hj, _⟩ => by omega⟩
 | n + 1 => by
  rw [bW, pz]
  by_cases h : k = f n
  ·rw [if_pos h]; exact ⟨fun _ => ⟨n, by omega, h.symm⟩, fun _ => rfl⟩
  ·rw [if_neg h, yw n]
   exact ⟨fun ⟨j, h1, h2⟩ => ⟨j, by omega, h2⟩, fun ⟨j, h1, h2⟩ => ⟨j, by rcases Nat.lt_or_ge j n with h3 | h3; exact h3; exact absurd ((show j = n by omega) ▸ h2).symm h, h2⟩⟩
theorem vq {f : Nat → ByteArray} {j : Nat} : ∀ (n : Nat), j < n → (∀ i, i < n → ∀ i', i' < i → f i' ≠ f i) → ah 0 (bW [] f n) (f j) = (j : Int)
 | 0, h, _ => by omega
 | n + 1, h, hd => by
  rw [bW, ew]
  by_cases hj : j = n
  ·subst hj; rw [if_pos rfl]
  ·rw [if_neg (hd n (by omega) j (by omega))]
   exact vq n (by omega) (fun i hi i' hi' => hd i (by omega) i' hi')
theorem tW {f : Nat → ByteArray} {k : ByteArray} : ∀ (n : Nat), aW (bW [] f n) k = true → 0 ≤ ah 0 (bW [] f n) k ∧ ah 0 (bW [] f n) k < (n : Int)
 | 0, h => by simp [bW, aW] at h
 | n + 1, h => by
  rw [bW, pz] at h
  rw [bW, ew]
  by_cases hk : k = f n
  ·rw [if_pos hk]; omega
  ·rw [if_neg hk] at h ⊢
   have := tW n h
   omega
def jL (n : Ci) : List (ByteArray × Int) := bW [] (a6 n) n.chans.length
def ff (o n : Ci) (i : Nat) : Bool := !aW (jL n) (a6 o i) || !decide ((n.chans.getD (ah 0 (jL n) (a6 o i)).toNat ax).w = (o.chans.getD i ax).w)
theorem qz {o n : Ci} {i : Nat} (h : aW (jL n) (a6 o i) = false) : ff o n i = true := by unfold ff; rw [h]; rfl
theorem zS {o n : Ci} {i : Nat} (h : ¬(n.chans.getD (ah 0 (jL n) (a6 o i)).toNat ax).w = (o.chans.getD i ax).w) : ff o n i = true := by unfold ff; rw [decide_eq_false h]; simp
theorem vt {o n : Ci} {i : Nat} (h : aW (jL n) (a6 o i) = true) (h2 : (n.chans.getD (ah 0 (jL n) (a6 o i)).toNat ax).w = (o.chans.getD i ax).w) : ¬ff o n i = true := by unfold ff; rw [h, decide_eq_true h2]; simp
def aK (o n : Ci) : Nat → List ByteArray
 | 0 => []
 | i + 1 => aK o n i ++ (if ff o n i = true then [a6 o i] else [])
theorem ob (o n : Ci) : ∀ i, (aK o n i).length ≤ i
 | 0 => Nat.le_refl _
 | i + 1 => by
  have := ob o n i
  rw [aK, List.length_append]
  split <;> simp <;> omega
theorem rS {o n : Ci} {i : Nat} (h : ff o n i = true) : aK o n (i + 1) = aK o n i ++ [a6 o i] := by rw [aK, if_pos h]
theorem qA {o n : Ci} {i : Nat} (h : ¬ff o n i = true) : aK o n i = aK o n (i + 1) := by rw [aK, if_neg h, List.append_nil]
def kG (x w : Int) : Int := if 0 ≤ w ∧ w ≤ 62 then x % 2 ^ w.toNat else 0
theorem Dh {x w : Int} : IntKind.wrap .i64 ((BitVec.ofInt (IntKind.i64).bits x &&& BitVec.ofInt (IntKind.i64).bits (aD w)).toNat : Int) = kG x w := by
 unfold kG
 by_cases h : 0 ≤ w ∧ w ≤ 62
 ·rw [if_pos h, cJ h.1 h.2]
  exact kC (n := w.toNat) (by omega)
 ·rw [if_neg h, show aD w = 0 from if_pos (by omega)]
  rw [show BitVec.ofInt (IntKind.i64).bits 0 = 0#_ from by simp, BitVec.and_zero]
  rfl
theorem Di {x : Int} {n : Nat} (h : n ≤ 62) : IntKind.wrap .i64 x % 2 ^ n = x % 2 ^ n := by
 have hd : ((2 : Int) ^ n) ∣ 18446744073709551616 := by
  refine ⟨2 ^ (64 - n), ?_⟩
  rw [← Int.pow_add, show n + (64 - n) = 64 by omega]
  decide
 obtain ⟨k, hk⟩ : ∃ k : Int, IntKind.wrap .i64 x = x + k * 18446744073709551616 := by
  have h1 : (2 : Int) ^ (IntKind.i64).bits = 18446744073709551616 := by decide
  unfold IntKind.wrap
  simp only [h1]
  have := Int.emod_add_mul_ediv x 18446744073709551616
  split
  ·exact ⟨-(x / 18446744073709551616) - 1, by omega⟩
  ·exact ⟨-(x / 18446744073709551616), by omega⟩
 obtain ⟨c, hc⟩ := hd
 rw [hk, hc, show k * (2 ^ n * c) = 2 ^ n * (k * c) by rw [Int.mul_left_comm]]
 exact Int.add_mul_emod_self_left x (2 ^ n) (k * c)
theorem Dj {x w : Int} : kG (IntKind.wrap .i64 x) w = kG x w := by
 unfold kG
 by_cases h : 0 ≤ w ∧ w ≤ 62
 ·rw [if_pos h, if_pos h]; exact Di (by omega)
 ·rw [if_neg h, if_neg h]
structure dU where
 first : Int
 w : Int
 rule : ao
def d4 (c : dU) (v : Int) (is : Bool) : Int := if is = true then kG v c.w else c.first
def oc (c : dU) (v : Int) (is : Bool) : Int := kG (d4 c v is + c.rule.n) c.w
def bZ (c : dU) (v : Int) (is : Bool) : Int := if c.rule.kind = 0 then c.first else if c.rule.kind = 3 then oc c v is else d4 c v is
def au (own : ByteArray) (r : ao) : ByteArray := if r.kind = 1 then own else r.src
def wS (f : pV) (r : Rg) : Int := ah 0 f.regs (au r.name r.rule)
def vu (f : pV) (r : Rg) : Bool := aW f.regs (au r.name r.rule)
def mj (f : pV) (r : Rg) : Bool := if vu f r = true ∧ r.rule.kind = 1 then decide ((f.p.regs.getD (wS f r).toNat aO).w = r.w) else vu f r
def eh (f : pV) (r : Rg) : Int := bZ ⟨r.init, r.w, r.rule⟩ (if mj f r = true then f.s.regs.getD (wS f r).toNat 0 else 0) (mj f r)
def dV (f : pV) (m : Mm) : Bool := if aW f.mems (au m.name m.rule) = true ∧ m.rule.kind = 1 then (decide ((f.p.mems.getD (ah 0 f.mems (au m.name m.rule)).toNat aB).w = m.w) && decide ((f.p.mems.getD (ah 0 f.mems (au m.name m.rule)).toNat aB).words = m.words)) else aW f.mems (au m.name m.rule)
def tX (f : pV) (m : Mm) (k : Nat) : Bool := dV f m && decide (((k : Nat) : Int) < ((f.s.mems.getD (ah 0 f.mems (au m.name m.rule)).toNat []).length : Int))
def b7 (f : pV) (m : Mm) (k : Nat) : Int := bZ ⟨0, m.w, m.rule⟩ (if tX f m k = true then (f.s.mems.getD (ah 0 f.mems (au m.name m.rule)).toNat []).getD k 0 else 0) (tX f m k)
def fp (f : pV) (m : Mm) : List Int := (List.range m.words.toNat).map (b7 f m)
theorem fT {f : pV} {m : Mm} {k : Nat} (h : dV f m = true) (h2 : (k : Int) < ((f.s.mems.getD (ah 0 f.mems (au m.name m.rule)).toNat []).length : Int)) : b7 f m k = bZ ⟨0, m.w, m.rule⟩ ((f.s.mems.getD (ah 0 f.mems (au m.name m.rule)).toNat []).getD k 0) true := by
 unfold b7 tX
 rw [h, decide_eq_true h2]; rfl
theorem fg {f : pV} {m : Mm} {k : Nat} (h : dV f m = false) : b7 f m k = bZ ⟨0, m.w, m.rule⟩ 0 false := by
 unfold b7 tX
 rw [h]; rfl
theorem fU {f : pV} {m : Mm} {k : Nat} (h2 : ¬(k : Int) < ((f.s.mems.getD (ah 0 f.mems (au m.name m.rule)).toNat []).length : Int)) : b7 f m k = bZ ⟨0, m.w, m.rule⟩ 0 false := by
 unfold b7 tX
 rw [decide_eq_false h2, Bool.and_false]; rfl
abbrev CC (c : Ct) : Prop := ap Try.prog c.f c.as [] c.al c.r []
abbrev CK (c : Ct) : Prop := qa [] c.as c.as ∧ ap Try.prog c.f c.as [] c.al c.r []
abbrev CO (c : Fr) : Prop := ap Try.prog c.f c.as [] false c.r [c.B]
set_option maxRecDepth 100000
abbrev Hw (w : Int) : Ct := ⟨87,[(i6 w)],false,(i6 (aD w))⟩
theorem vw (w : Int) : CC (Hw w) := by
 refine ap.vc (V := TT 1 (CS (w < 0) (TT 2 ((True∧(decide (w < 0)) = true)∧TT 5 ((0 : Int) = (aD w)∧True))) (TT 2 ((True∧(decide (w < 0)) = false)∧TT 3 (CD (w > 62) (TT 2 ((0 : Int) = (aD w)∧True)) (TT 1 (SH w∧W6 ((2 ^ w.toNat) - 1)∧TT 2 (((2 ^ w.toNat) - 1) = (aD w)∧True)))))))) (.s 1 (w < 0) (.w 1 [(2,.val (dB true))] <| .e) (.w 1 [(2,.val (dB false))] <| .b 8 (.e) (.w 3 [(1,.val (i6 (2 ^ w.toNat))),(2,.val (i6 ((2 ^ w.toNat) - 1)))] <| .e))) Try.func87 rfl rfl rfl (by kernel_rfl) ?_
 refine tt ⟨fun hs0 => ?_,fun hs0 => ?_⟩
 · refine tt ⟨(vT hs0),tt ⟨?_,oK⟩⟩
   unfold aD; first | exact (if_pos (by omega)).symm | exact (if_neg (by omega)).symm
 · refine tt ⟨(vF hs0),tt (cd (fun hc8 => ?_) (fun hc8 => ?_))⟩
   · refine tt ⟨?_,oK⟩
     unfold aD; first | exact (if_pos (by omega)).symm | exact (if_neg (by omega)).symm
   · refine tt ⟨sh,⟨(w6 (by have := kf (n := w.toNat) (by omega); omega) (by have := kf (n := w.toNat) (by omega); omega)),tt ⟨?_,oK⟩⟩⟩
     unfold aD; first | exact (if_pos (by omega)).symm | exact (if_neg (by omega)).symm
end Go.Proofs.Ytnlmlkbaflmgcaa
