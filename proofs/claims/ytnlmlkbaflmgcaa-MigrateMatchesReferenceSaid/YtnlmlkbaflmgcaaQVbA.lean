/-
  Package bits: widths and values of operations.
-/
import Derived.Test.YtnlmlkbaflmgcaaQNeB
import Derived.Test.YtnlmlkbaflmgcaaProg
namespace Go.Proofs.Ytnlmlkbaflmgcaa
open Go.RowKit
set_option linter.unusedVariables false
set_option linter.unusedSimpArgs false
theorem zU (bs : ByteArray) : ∀ (n i : Nat) (r : List UInt8), bs.size - i = n → ByteArray.toList.loop bs i r = r.reverse ++ bs.data.toList.drop i
 | 0, i, r, h => by
  unfold ByteArray.toList.loop
  rw [if_neg (by omega), List.drop_eq_nil_of_le (by show bs.data.toList.length ≤ i; rw [Array.length_toList]; have : bs.data.size = bs.size := rfl; omega), List.append_nil]
 | n + 1, i, r, h => by
  unfold ByteArray.toList.loop
  have hi : i < bs.size := by omega
  have hi2 : i < bs.data.toList.length := by rw [Array.length_toList]; exact hi
  rw [if_pos hi, zU bs n (i + 1) _ (by omega), List.drop_eq_getElem_cons hi2]
  have e : bs.get! i = bs.data.toList[i] := by
   show bs.data[i]! = _
   rw [getElem!_pos bs.data i hi]; simp
  rw [e]; simp
theorem zV (bs : ByteArray) : bs.toList = bs.data.toList := by
 unfold ByteArray.toList
 rw [zU bs _ 0 [] rfl]; simp
theorem toList_inj {a b : ByteArray} (h : a.toList = b.toList) : a = b := by
 rw [zV, zV] at h
 cases a; cases b
 simp only [Array.toList_inj] at h
 rw [h]
def b4 (b : List (ByteArray × Int)) (f : Nat → ByteArray) : Nat → List (ByteArray × Int)
 | 0 => b
 | i + 1 => dt (b4 b f i) (f i) (i : Int)
def bk (c : Ci) (i : Nat) : ByteArray := (c.chans.getD i ax).name
def eo (p : Pr) (i : Nat) : ByteArray := (p.regs.getD i aC).name
def fb (p : Pr) (i : Nat) : ByteArray := (p.mems.getD i au).name
def eG (c : Ci) (i : Nat) : ByteArray := (c.procs.getD i ac).name
structure p5 where
 p : Pr
 s : Ps
 regs : List (ByteArray × Int)
 mems : List (ByteArray × Int)
abbrev ba : p5 := ⟨ac, aX, [], []⟩
def kV (r : p5) : List V := [.str r.p.name, .str r.p.clock, .sl 13 bA aC r.p.regs, .sl 27 bX au r.p.mems, .sl 9 cP bB r.p.takes, .sl 16 cN bK r.p.puts, .sl 1 (aa .i64) 0 r.s.regs, .sl 1 ab [] r.s.mems, .sm false (aa .i64) 0 r.regs, .sm false (aa .i64) 0 r.mems]
def er (c : Ci) (s : Ns) (i : Nat) : p5 := ⟨c.procs.getD i ac, s.procs.getD i aX, b4 [] (eo (c.procs.getD i ac)) (c.procs.getD i ac).regs.length, b4 [] (fb (c.procs.getD i ac)) (c.procs.getD i ac).mems.length⟩
def bc (c : Ci) (s : Ns) : Nat → List (ByteArray × p5)
 | 0 => []
 | i + 1 => dt (bc c s i) (eG c i) (er c s i)
theorem eJ {α : Type _} (d x : α) (k k' : ByteArray) : ∀ l : List (ByteArray × α), ah d (dt l k x) k' = if k' = k then x else ah d l k'
 | [] => rfl
 | (q, y) :: r => by
  rw [dt]
  split
  ·rename_i h
   subst h
   rw [ah, ah]
   split <;> rfl
  ·rename_i h
   rw [ah, ah, eJ d x k k' r]
   by_cases h1 : k' = q
   ·rw [if_pos h1, if_pos h1, if_neg (fun h2 => h (h2.symm.trans h1))]
   ·rw [if_neg h1, if_neg h1]
theorem pD {α : Type _} (x : α) (k k' : ByteArray) : ∀ l : List (ByteArray × α), aV (dt l k x) k' = if k' = k then true else aV l k'
 | [] => rfl
 | (q, y) :: r => by
  rw [dt]
  split
  ·rename_i h
   subst h
   rw [aV, aV]
   split <;> rfl
  ·rename_i h
   rw [aV, aV, pD x k k' r]
   by_cases h1 : k' = q
   ·rw [if_pos h1, if_pos h1, if_neg (fun h2 => h (h2.symm.trans h1))]
   ·rw [if_neg h1, if_neg h1]
theorem yy {f : Nat → ByteArray} {k : ByteArray} : ∀ (n : Nat), aV (b4 [] f n) k = true ↔ ∃ j, j < n ∧ f j = k
 | 0 => ⟨fun h => by simp [b4, aV] at h, fun ⟨j, hj, _⟩ => by omega⟩
 | n + 1 => by
  rw [b4, pD]
  by_cases h : k = f n
  ·rw [if_pos h]; exact ⟨fun _ => ⟨n, by omega, h.symm⟩, fun _ => rfl⟩
  ·rw [if_neg h, yy n]
   exact ⟨fun ⟨j, h1, h2⟩ => ⟨j, by omega, h2⟩, fun ⟨j, h1, h2⟩ => ⟨j, by rcases Nat.lt_or_ge j n with h3 | h3; exact h3; exact absurd ((show j = n by omega) ▸ h2).symm h, h2⟩⟩
theorem vu {f : Nat → ByteArray} {j : Nat} : ∀ (n : Nat), j < n → (∀ i, i < n → ∀ i', i' < i → f i' ≠ f i) → ah 0 (b4 [] f n) (f j) = (j : Int)
 | 0, h, _ => by omega
 | n + 1, h, hd => by
  rw [b4, eJ]
  by_cases hj : j = n
  ·subst hj; rw [if_pos rfl]
  ·rw [if_neg (hd n (by omega) j (by omega))]
   exact vu n (by omega) (fun i hi i' hi' => hd i (by omega) i' hi')
theorem t3 {f : Nat → ByteArray} {k : ByteArray} : ∀ (n : Nat), aV (b4 [] f n) k = true → 0 ≤ ah 0 (b4 [] f n) k ∧ ah 0 (b4 [] f n) k < (n : Int)
 | 0, h => by simp [b4, aV] at h
 | n + 1, h => by
  rw [b4, pD] at h
  rw [b4, eJ]
  by_cases hk : k = f n
  ·rw [if_pos hk]; omega
  ·rw [if_neg hk] at h ⊢
   have := t3 n h
   omega
def jv (n : Ci) : List (ByteArray × Int) := b4 [] (bk n) n.chans.length
def iu (o n : Ci) (i : Nat) : Bool := !aV (jv n) (bk o i) || !decide ((n.chans.getD (ah 0 (jv n) (bk o i)).toNat ax).w = (o.chans.getD i ax).w)
theorem qH {o n : Ci} {i : Nat} (h : aV (jv n) (bk o i) = false) : iu o n i = true := by unfold iu; rw [h]; rfl
theorem zW {o n : Ci} {i : Nat} (h : ¬(n.chans.getD (ah 0 (jv n) (bk o i)).toNat ax).w = (o.chans.getD i ax).w) : iu o n i = true := by unfold iu; rw [decide_eq_false h]; simp
theorem vw {o n : Ci} {i : Nat} (h : aV (jv n) (bk o i) = true) (h2 : (n.chans.getD (ah 0 (jv n) (bk o i)).toNat ax).w = (o.chans.getD i ax).w) : ¬iu o n i = true := by unfold iu; rw [h, decide_eq_true h2]; simp
def a4 (o n : Ci) : Nat → List ByteArray
 | 0 => []
 | i + 1 => a4 o n i ++ (if iu o n i = true then [bk o i] else [])
theorem kW (o n : Ci) : ∀ i, (a4 o n i).length ≤ i
 | 0 => Nat.le_refl _
 | i + 1 => by
  have := kW o n i
  rw [a4, List.length_append]
  split <;> simp <;> omega
theorem wT {o n : Ci} {i : Nat} (h : iu o n i = true) : a4 o n (i + 1) = a4 o n i ++ [bk o i] := by rw [a4, if_pos h]
theorem vx {o n : Ci} {i : Nat} (h : ¬iu o n i = true) : a4 o n i = a4 o n (i + 1) := by rw [a4, if_neg h, List.append_nil]
def dH (x w : Int) : Int := if 0 ≤ w ∧ w ≤ 62 then x % 2 ^ w.toNat else 0
theorem Dt {x w : Int} : IntKind.wrap .i64 ((BitVec.ofInt (IntKind.i64).bits x &&& BitVec.ofInt (IntKind.i64).bits (aG w)).toNat : Int) = dH x w := by
 unfold dH
 by_cases h : 0 ≤ w ∧ w ≤ 62
 ·rw [if_pos h, dM h.1 h.2]
  exact kS (n := w.toNat) (by omega)
 ·rw [if_neg h, show aG w = 0 from if_pos (by omega)]
  rw [show BitVec.ofInt (IntKind.i64).bits 0 = 0#_ from by simp, BitVec.and_zero]
  rfl
theorem Du {x : Int} {n : Nat} (h : n ≤ 62) : IntKind.wrap .i64 x % 2 ^ n = x % 2 ^ n := by
 have hd : ((2 : Int) ^ n) ∣ 18446744073709551616 := by
  refine ⟨2 ^ (64 - n), ?_⟩
  rw [← Int.pow_add, show n + (64 - n) = 64 by omega]
  decide
 obtain ⟨k, hk⟩ : ∃ k : Int, IntKind.wrap .i64 x = x + k * 18446744073709551616 := by
  have h1 : (2 : Int) ^ (IntKind.i64).bits = 18446744073709551616 := by decide
  unfold IntKind.wrap
  simp only [h1]
  have := Int.emod_add_mul_ediv x 18446744073709551616
  split
  ·exact ⟨-(x / 18446744073709551616) - 1, by omega⟩
  ·exact ⟨-(x / 18446744073709551616), by omega⟩
 obtain ⟨c, hc⟩ := hd
 rw [hk, hc, show k * (2 ^ n * c) = 2 ^ n * (k * c) by rw [Int.mul_left_comm]]
 exact Int.add_mul_emod_self_left x (2 ^ n) (k * c)
theorem jw {x w : Int} : dH (IntKind.wrap .i64 x) w = dH x w := by
 unfold dH
 by_cases h : 0 ≤ w ∧ w ≤ 62
 ·rw [if_pos h, if_pos h]; exact Du (by omega)
 ·rw [if_neg h, if_neg h]
structure d5 where
 first : Int
 w : Int
 rule : ao
def eu (c : d5) (v : Int) (is : Bool) : Int := if is = true then dH v c.w else c.first
def ow (c : d5) (v : Int) (is : Bool) : Int := dH (eu c v is + c.rule.n) c.w
def b6 (c : d5) (v : Int) (is : Bool) : Int := if c.rule.kind = 0 then c.first else if c.rule.kind = 3 then ow c v is else eu c v is
def ay (own : ByteArray) (r : ao) : ByteArray := if r.kind = 1 then own else r.src
def wU (f : p5) (r : Rg) : Int := ah 0 f.regs (ay r.name r.rule)
def vy (f : p5) (r : Rg) : Bool := aV f.regs (ay r.name r.rule)
def mO (f : p5) (r : Rg) : Bool := if vy f r = true ∧ r.rule.kind = 1 then decide ((f.p.regs.getD (wU f r).toNat aC).w = r.w) else vy f r
def eD (f : p5) (r : Rg) : Int := b6 ⟨r.init, r.w, r.rule⟩ (if mO f r = true then f.s.regs.getD (wU f r).toNat 0 else 0) (mO f r)
def d6 (f : p5) (m : Mm) : Bool := if aV f.mems (ay m.name m.rule) = true ∧ m.rule.kind = 1 then (decide ((f.p.mems.getD (ah 0 f.mems (ay m.name m.rule)).toNat au).w = m.w) && decide ((f.p.mems.getD (ah 0 f.mems (ay m.name m.rule)).toNat au).words = m.words)) else aV f.mems (ay m.name m.rule)
def t4 (f : p5) (m : Mm) (k : Nat) : Bool := d6 f m && decide (((k : Nat) : Int) < ((f.s.mems.getD (ah 0 f.mems (ay m.name m.rule)).toNat []).length : Int))
def cf (f : p5) (m : Mm) (k : Nat) : Int := b6 ⟨0, m.w, m.rule⟩ (if t4 f m k = true then (f.s.mems.getD (ah 0 f.mems (ay m.name m.rule)).toNat []).getD k 0 else 0) (t4 f m k)
def fD (f : p5) (m : Mm) : List Int := (List.range m.words.toNat).map (cf f m)
theorem gq {f : p5} {m : Mm} {k : Nat} (h : d6 f m = true) (h2 : (k : Int) < ((f.s.mems.getD (ah 0 f.mems (ay m.name m.rule)).toNat []).length : Int)) : cf f m k = b6 ⟨0, m.w, m.rule⟩ ((f.s.mems.getD (ah 0 f.mems (ay m.name m.rule)).toNat []).getD k 0) true := by
 unfold cf t4
 rw [h, decide_eq_true h2]; rfl
theorem fw {f : p5} {m : Mm} {k : Nat} (h : d6 f m = false) : cf f m k = b6 ⟨0, m.w, m.rule⟩ 0 false := by
 unfold cf t4
 rw [h]; rfl
theorem gr {f : p5} {m : Mm} {k : Nat} (h2 : ¬(k : Int) < ((f.s.mems.getD (ah 0 f.mems (ay m.name m.rule)).toNat []).length : Int)) : cf f m k = b6 ⟨0, m.w, m.rule⟩ 0 false := by
 unfold cf t4
 rw [decide_eq_false h2, Bool.and_false]; rfl
abbrev CC (c : Ct) : Prop := ap Try.prog c.f c.as [] c.al c.r []
abbrev CK (c : Ct) : Prop := qi [] c.as c.as ∧ ap Try.prog c.f c.as [] c.al c.r []
abbrev CO (c : Fx) : Prop := ap Try.prog c.f c.as [] false c.r [c.B]
set_option maxRecDepth 100000
abbrev JB (w : Int) : Ct := ⟨87,[(i6 w)],false,(i6 (aG w))⟩
theorem zX (w : Int) : CC (JB w) := by
 refine ap.vc (V := TT 1 (CS (w < 0) (TT 2 ((True∧(decide (w < 0)) = true)∧TT 5 ((0 : Int) = (aG w)∧True))) (TT 2 ((True∧(decide (w < 0)) = false)∧TT 3 (CD (w > 62) (TT 2 ((0 : Int) = (aG w)∧True)) (TT 1 (SH w∧W6 ((2 ^ w.toNat) - 1)∧TT 2 (((2 ^ w.toNat) - 1) = (aG w)∧True)))))))) (.s 1 (w < 0) (.w 1 [(2,.val (dB true))] <| .e) (.w 1 [(2,.val (dB false))] <| .b 8 (.e) (.w 3 [(1,.val (i6 (2 ^ w.toNat))),(2,.val (i6 ((2 ^ w.toNat) - 1)))] <| .e))) Try.func87 rfl rfl rfl (by kernel_rfl) ?_
 refine tt ⟨fun hs0 => ?_,fun hs0 => ?_⟩
 · refine tt ⟨(vT hs0),tt ⟨?_,oK⟩⟩
   unfold aG; first | exact (if_pos (by omega)).symm | exact (if_neg (by omega)).symm
 · refine tt ⟨(vF hs0),tt (cd (fun hc8 => ?_) (fun hc8 => ?_))⟩
   · refine tt ⟨?_,oK⟩
     unfold aG; first | exact (if_pos (by omega)).symm | exact (if_neg (by omega)).symm
   · refine tt ⟨sh,⟨(w6 (by have := mM (n := w.toNat) (by omega); omega) (by have := mM (n := w.toNat) (by omega); omega)),tt ⟨?_,oK⟩⟩⟩
     unfold aG; first | exact (if_pos (by omega)).symm | exact (if_neg (by omega)).symm
end Go.Proofs.Ytnlmlkbaflmgcaa
