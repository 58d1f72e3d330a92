/-
  Package bits: widths and values of operations.
-/
import Derived.Test.YtnlmlkbaflmgcaaQNeB
import Derived.Test.YtnlmlkbaflmgcaaProg
namespace Go.Proofs.Ytnlmlkbaflmgcaa
open Go.RowKit
set_option linter.unusedVariables false
set_option linter.unusedSimpArgs false
theorem Ah (bs : ByteArray) : ∀ (n i : Nat) (r : List UInt8), bs.size - i = n → ByteArray.toList.loop bs i r = r.reverse ++ bs.data.toList.drop i
 | 0, i, r, h => by
  unfold ByteArray.toList.loop
  rw [if_neg (by omega), List.drop_eq_nil_of_le (by show bs.data.toList.length ≤ i; rw [Array.length_toList]; have : bs.data.size = bs.size := rfl; omega), List.append_nil]
 | n + 1, i, r, h => by
  unfold ByteArray.toList.loop
  have hi : i < bs.size := by omega
  have hi2 : i < bs.data.toList.length := by rw [Array.length_toList]; exact hi
  rw [if_pos hi, Ah bs n (i + 1) _ (by omega), List.drop_eq_getElem_cons hi2]
  have e : bs.get! i = bs.data.toList[i] := by
   show bs.data[i]! = _
   rw [getElem!_pos bs.data i hi]; simp
  rw [e]; simp
theorem Ai (bs : ByteArray) : bs.toList = bs.data.toList := by
 unfold ByteArray.toList
 rw [Ah bs _ 0 [] rfl]; simp
theorem toList_inj {a b : ByteArray} (h : a.toList = b.toList) : a = b := by
 rw [Ai, Ai] at h
 cases a; cases b
 simp only [Array.toList_inj] at h
 rw [h]
def b3 (b : List (ByteArray × Int)) (f : Nat → ByteArray) : Nat → List (ByteArray × Int)
 | 0 => b
 | i + 1 => dk (b3 b f i) (f i) (i : Int)
def be (c : Ci) (i : Nat) : ByteArray := (c.chans.getD i aB).name
def dc (p : Pr) (i : Nat) : ByteArray := (p.regs.getD i aK).name
def d4 (p : Pr) (i : Nat) : ByteArray := (p.mems.getD i ax).name
def fu (c : Ci) (i : Nat) : ByteArray := (c.procs.getD i ac).name
structure qc where
 p : Pr
 s : Ps
 regs : List (ByteArray × Int)
 mems : List (ByteArray × Int)
abbrev bf : qc := ⟨ac, aW, [], []⟩
def kR (r : qc) : List V := [.str r.p.name, .str r.p.clock, .sl 13 bA aK r.p.regs, .sl 27 bV ax r.p.mems, .sl 9 dJ bO r.p.takes, .sl 16 dz bU r.p.puts, .sl 1 (aa .i64) 0 r.s.regs, .sl 1 ae [] r.s.mems, .sm false (aa .i64) 0 r.regs, .sm false (aa .i64) 0 r.mems]
def d5 (c : Ci) (s : Ns) (i : Nat) : qc := ⟨c.procs.getD i ac, s.procs.getD i aW, b3 [] (dc (c.procs.getD i ac)) (c.procs.getD i ac).regs.length, b3 [] (d4 (c.procs.getD i ac)) (c.procs.getD i ac).mems.length⟩
def bh (c : Ci) (s : Ns) : Nat → List (ByteArray × qc)
 | 0 => []
 | i + 1 => dk (bh c s i) (fu c i) (d5 c s i)
theorem eD {α : Type _} (d x : α) (k k' : ByteArray) : ∀ l : List (ByteArray × α), ah d (dk l k x) k' = if k' = k then x else ah d l k'
 | [] => rfl
 | (q, y) :: r => by
  rw [dk]
  split
  ·rename_i h
   subst h
   rw [ah, ah]
   split <;> rfl
  ·rename_i h
   rw [ah, ah, eD d x k k' r]
   by_cases h1 : k' = q
   ·rw [if_pos h1, if_pos h1, if_neg (fun h2 => h (h2.symm.trans h1))]
   ·rw [if_neg h1, if_neg h1]
theorem pF {α : Type _} (x : α) (k k' : ByteArray) : ∀ l : List (ByteArray × α), aY (dk l k x) k' = if k' = k then true else aY l k'
 | [] => rfl
 | (q, y) :: r => by
  rw [dk]
  split
  ·rename_i h
   subst h
   rw [aY, aY]
   split <;> rfl
  ·rename_i h
   rw [aY, aY, pF x k k' r]
   by_cases h1 : k' = q
   ·rw [if_pos h1, if_pos h1, if_neg (fun h2 => h (h2.symm.trans h1))]
   ·rw [if_neg h1, if_neg h1]
theorem yL {f : Nat → ByteArray} {k : ByteArray} : ∀ (n : Nat), aY (b3 [] f n) k = true ↔ ∃ j, j < n ∧ f j = k
 | 0 => ⟨fun h => by simp [b3, aY] at h, fun ⟨j, hj, _⟩ => by omega⟩
 | n + 1 => by
  rw [b3, pF]
  by_cases h : k = f n
  ·rw [if_pos h]; exact ⟨fun _ => ⟨n, by omega, h.symm⟩, fun _ => rfl⟩
  ·rw [if_neg h, yL n]
   exact ⟨fun ⟨j, h1, h2⟩ => ⟨j, by omega, h2⟩, fun ⟨j, h1, h2⟩ => ⟨j, by rcases Nat.lt_or_ge j n with h3 | h3; exact h3; exact absurd ((show j = n by omega) ▸ h2).symm h, h2⟩⟩
theorem vH {f : Nat → ByteArray} {j : Nat} : ∀ (n : Nat), j < n → (∀ i, i < n → ∀ i', i' < i → f i' ≠ f i) → ah 0 (b3 [] f n) (f j) = (j : Int)
 | 0, h, _ => by omega
 | n + 1, h, hd => by
  rw [b3, eD]
  by_cases hj : j = n
  ·subst hj; rw [if_pos rfl]
  ·rw [if_neg (hd n (by omega) j (by omega))]
   exact vH n (by omega) (fun i hi i' hi' => hd i (by omega) i' hi')
theorem ug {f : Nat → ByteArray} {k : ByteArray} : ∀ (n : Nat), aY (b3 [] f n) k = true → 0 ≤ ah 0 (b3 [] f n) k ∧ ah 0 (b3 [] f n) k < (n : Int)
 | 0, h => by simp [b3, aY] at h
 | n + 1, h => by
  rw [b3, pF] at h
  rw [b3, eD]
  by_cases hk : k = f n
  ·rw [if_pos hk]; omega
  ·rw [if_neg hk] at h ⊢
   have := ug n h
   omega
def jj (n : Ci) : List (ByteArray × Int) := b3 [] (be n) n.chans.length
def ij (o n : Ci) (i : Nat) : Bool := !aY (jj n) (be o i) || !decide ((n.chans.getD (ah 0 (jj n) (be o i)).toNat aB).w = (o.chans.getD i aB).w)
theorem qK {o n : Ci} {i : Nat} (h : aY (jj n) (be o i) = false) : ij o n i = true := by unfold ij; rw [h]; rfl
theorem Aj {o n : Ci} {i : Nat} (h : ¬(n.chans.getD (ah 0 (jj n) (be o i)).toNat aB).w = (o.chans.getD i aB).w) : ij o n i = true := by unfold ij; rw [decide_eq_false h]; simp
theorem vI {o n : Ci} {i : Nat} (h : aY (jj n) (be o i) = true) (h2 : (n.chans.getD (ah 0 (jj n) (be o i)).toNat aB).w = (o.chans.getD i aB).w) : ¬ij o n i = true := by unfold ij; rw [h, decide_eq_true h2]; simp
def a7 (o n : Ci) : Nat → List ByteArray
 | 0 => []
 | i + 1 => a7 o n i ++ (if ij o n i = true then [be o i] else [])
theorem oq (o n : Ci) : ∀ i, (a7 o n i).length ≤ i
 | 0 => Nat.le_refl _
 | i + 1 => by
  have := oq o n i
  rw [a7, List.length_append]
  split <;> simp <;> omega
theorem w8 {o n : Ci} {i : Nat} (h : ij o n i = true) : a7 o n (i + 1) = a7 o n i ++ [be o i] := by rw [a7, if_pos h]
theorem vJ {o n : Ci} {i : Nat} (h : ¬ij o n i = true) : a7 o n i = a7 o n (i + 1) := by rw [a7, if_neg h, List.append_nil]
def kx (x w : Int) : Int := if 0 ≤ w ∧ w ≤ 62 then x % 2 ^ w.toNat else 0
theorem DE {x w : Int} : IntKind.wrap .i64 ((BitVec.ofInt (IntKind.i64).bits x &&& BitVec.ofInt (IntKind.i64).bits (aC w)).toNat : Int) = kx x w := by
 unfold kx
 by_cases h : 0 ≤ w ∧ w ≤ 62
 ·rw [if_pos h, cI h.1 h.2]
  exact kM (n := w.toNat) (by omega)
 ·rw [if_neg h, show aC w = 0 from if_pos (by omega)]
  rw [show BitVec.ofInt (IntKind.i64).bits 0 = 0#_ from by simp, BitVec.and_zero]
  rfl
theorem DF {x : Int} {n : Nat} (h : n ≤ 62) : IntKind.wrap .i64 x % 2 ^ n = x % 2 ^ n := by
 have hd : ((2 : Int) ^ n) ∣ 18446744073709551616 := by
  refine ⟨2 ^ (64 - n), ?_⟩
  rw [← Int.pow_add, show n + (64 - n) = 64 by omega]
  decide
 obtain ⟨k, hk⟩ : ∃ k : Int, IntKind.wrap .i64 x = x + k * 18446744073709551616 := by
  have h1 : (2 : Int) ^ (IntKind.i64).bits = 18446744073709551616 := by decide
  unfold IntKind.wrap
  simp only [h1]
  have := Int.emod_add_mul_ediv x 18446744073709551616
  split
  ·exact ⟨-(x / 18446744073709551616) - 1, by omega⟩
  ·exact ⟨-(x / 18446744073709551616), by omega⟩
 obtain ⟨c, hc⟩ := hd
 rw [hk, hc, show k * (2 ^ n * c) = 2 ^ n * (k * c) by rw [Int.mul_left_comm]]
 exact Int.add_mul_emod_self_left x (2 ^ n) (k * c)
theorem DG {x w : Int} : kx (IntKind.wrap .i64 x) w = kx x w := by
 unfold kx
 by_cases h : 0 ≤ w ∧ w ≤ 62
 ·rw [if_pos h, if_pos h]; exact DF (by omega)
 ·rw [if_neg h, if_neg h]
structure dV where
 first : Int
 w : Int
 rule : aj
def d6 (c : dV) (v : Int) (is : Bool) : Int := if is = true then kx v c.w else c.first
def ot (c : dV) (v : Int) (is : Bool) : Int := kx (d6 c v is + c.rule.n) c.w
def b5 (c : dV) (v : Int) (is : Bool) : Int := if c.rule.kind = 0 then c.first else if c.rule.kind = 3 then ot c v is else d6 c v is
def au (own : ByteArray) (r : aj) : ByteArray := if r.kind = 1 then own else r.src
def w9 (f : qc) (r : Rg) : Int := ah 0 f.regs (au r.name r.rule)
def vK (f : qc) (r : Rg) : Bool := aY f.regs (au r.name r.rule)
def mJ (f : qc) (r : Rg) : Bool := if vK f r = true ∧ r.rule.kind = 1 then decide ((f.p.regs.getD (w9 f r).toNat aK).w = r.w) else vK f r
def eu (f : qc) (r : Rg) : Int := b5 ⟨r.init, r.w, r.rule⟩ (if mJ f r = true then f.s.regs.getD (w9 f r).toNat 0 else 0) (mJ f r)
def dW (f : qc) (m : Mm) : Bool := if aY f.mems (au m.name m.rule) = true ∧ m.rule.kind = 1 then (decide ((f.p.mems.getD (ah 0 f.mems (au m.name m.rule)).toNat ax).w = m.w) && decide ((f.p.mems.getD (ah 0 f.mems (au m.name m.rule)).toNat ax).words = m.words)) else aY f.mems (au m.name m.rule)
def uj (f : qc) (m : Mm) (k : Nat) : Bool := dW f m && decide (((k : Nat) : Int) < ((f.s.mems.getD (ah 0 f.mems (au m.name m.rule)).toNat []).length : Int))
def ca (f : qc) (m : Mm) (k : Nat) : Int := b5 ⟨0, m.w, m.rule⟩ (if uj f m k = true then (f.s.mems.getD (ah 0 f.mems (au m.name m.rule)).toNat []).getD k 0 else 0) (uj f m k)
def fG (f : qc) (m : Mm) : List Int := (List.range m.words.toNat).map (ca f m)
theorem fZ {f : qc} {m : Mm} {k : Nat} (h : dW f m = true) (h2 : (k : Int) < ((f.s.mems.getD (ah 0 f.mems (au m.name m.rule)).toNat []).length : Int)) : ca f m k = b5 ⟨0, m.w, m.rule⟩ ((f.s.mems.getD (ah 0 f.mems (au m.name m.rule)).toNat []).getD k 0) true := by
 unfold ca uj
 rw [h, decide_eq_true h2]; rfl
theorem fl {f : qc} {m : Mm} {k : Nat} (h : dW f m = false) : ca f m k = b5 ⟨0, m.w, m.rule⟩ 0 false := by
 unfold ca uj
 rw [h]; rfl
theorem f7 {f : qc} {m : Mm} {k : Nat} (h2 : ¬(k : Int) < ((f.s.mems.getD (ah 0 f.mems (au m.name m.rule)).toNat []).length : Int)) : ca f m k = b5 ⟨0, m.w, m.rule⟩ 0 false := by
 unfold ca uj
 rw [decide_eq_false h2, Bool.and_false]; rfl
abbrev CC (c : Ct) : Prop := aq Try.prog c.f c.as [] c.al c.r []
abbrev CK (c : Ct) : Prop := qv [] c.as c.as ∧ aq Try.prog c.f c.as [] c.al c.r []
abbrev CO (c : FE) : Prop := aq Try.prog c.f c.as [] false c.r [c.B]
set_option maxRecDepth 100000
abbrev Jv (w : Int) : Ct := ⟨87,[(i6 w)],false,(i6 (aC w))⟩
theorem Ak (w : Int) : CC (Jv w) := by
 refine aq.vc (V := TT 1 (CS (w < 0) (TT 2 ((True∧(decide (w < 0)) = true)∧TT 5 ((0 : Int) = (aC w)∧True))) (TT 2 ((True∧(decide (w < 0)) = false)∧TT 3 (CD (w > 62) (TT 2 ((0 : Int) = (aC w)∧True)) (TT 1 (SH w∧W6 ((2 ^ w.toNat) - 1)∧TT 2 (((2 ^ w.toNat) - 1) = (aC w)∧True)))))))) (.s 1 (w < 0) (.w 1 [(2,.val (dB true))] <| .e) (.w 1 [(2,.val (dB false))] <| .b 8 (.e) (.w 3 [(1,.val (i6 (2 ^ w.toNat))),(2,.val (i6 ((2 ^ w.toNat) - 1)))] <| .e))) Try.func87 rfl rfl rfl (by kernel_rfl) ?_
 refine tt ⟨fun hs0 => ?_,fun hs0 => ?_⟩
 · refine tt ⟨(vT hs0),tt ⟨?_,oK⟩⟩
   unfold aC; first | exact (if_pos (by omega)).symm | exact (if_neg (by omega)).symm
 · refine tt ⟨(vF hs0),tt (cd (fun hc8 => ?_) (fun hc8 => ?_))⟩
   · refine tt ⟨?_,oK⟩
     unfold aC; first | exact (if_pos (by omega)).symm | exact (if_neg (by omega)).symm
   · refine tt ⟨sh,⟨(w6 (by have := kN (n := w.toNat) (by omega); omega) (by have := kN (n := w.toNat) (by omega); omega)),tt ⟨?_,oK⟩⟩⟩
     unfold aC; first | exact (if_pos (by omega)).symm | exact (if_neg (by omega)).symm
end Go.Proofs.Ytnlmlkbaflmgcaa
