/-
  What single operations compute, on pure data; and that their runs compute that. Third part: slice expressions, arithmetic, builtins. Generic: over any program.
-/
import Derived.Test.YtjmfaebimgnblaaAiB
namespace Go.Proofs.Ytjmfaebimgnblaa
open Go.RowKit
set_option linter.unusedVariables false
set_option linter.unusedSimpArgs false

def cmpI (op : BinOp) (a b : Int) : Option Bool :=
  match op with
  | .eql => some (a == b) | .neq => some (a != b) | .lss => some (decide (a < b)) | .leq => some (decide (a ≤ b)) | .gtr => some (decide (a > b)) | .geq => some (decide (a ≥ b))
  | _ => none

def bitsI (op : BinOp) (k : IntKind) (x y : Int) : Option Int :=
  match op with
  | .and => some (k.wrap (BitVec.ofInt k.bits x &&& BitVec.ofInt k.bits y).toNat)
  | .or => some (k.wrap (BitVec.ofInt k.bits x ||| BitVec.ofInt k.bits y).toNat)
  | .xor => some (k.wrap (BitVec.ofInt k.bits x ^^^ BitVec.ofInt k.bits y).toNat)
  | .andNot => some (k.wrap (BitVec.ofInt k.bits x &&& ~~~(BitVec.ofInt k.bits y)).toNat)
  | _ => none

/-- Arithmetic on numbers of one kind. -/
def arithI (op : BinOp) (k : IntKind) (a b : Int) : R1 :=
  match op with
  | .add => (.v (.int k (k.wrap (a + b))), True)
  | .sub => (.v (.int k (k.wrap (a - b))), True)
  | .mul => (.v (.int k (k.wrap (a * b))), True)
  | .quo => (.v (.int k (k.wrap (a.tdiv b))), b ≠ 0)
  | .rem => (.v (.int k (a.tmod b)), b ≠ 0)
  | .and => (.v (.int k (k.wrap (BitVec.ofInt k.bits a &&& BitVec.ofInt k.bits b).toNat)), True)
  | .or => (.v (.int k (k.wrap (BitVec.ofInt k.bits a ||| BitVec.ofInt k.bits b).toNat)), True)
  | .xor => (.v (.int k (k.wrap (BitVec.ofInt k.bits a ^^^ BitVec.ofInt k.bits b).toNat)), True)
  | .andNot => (.v (.int k (k.wrap (BitVec.ofInt k.bits a &&& ~~~(BitVec.ofInt k.bits b)).toNat)), True)
  | .eql => (.v (.bool (a == b)), True)
  | .neq => (.v (.bool (a != b)), True)
  | .lss => (.v (.bool (decide (a < b))), True)
  | .leq => (.v (.bool (decide (a ≤ b))), True)
  | .gtr => (.v (.bool (decide (a > b))), True)
  | .geq => (.v (.bool (decide (a ≥ b))), True)
  | _ => fail1

def isShift : BinOp → Bool | .shl => true | .shr => true | _ => false
def shiftI (op : BinOp) (k : IntKind) (a b : Int) : R1 :=
  match op with
  | .shl => (.v (.int k (k.wrap (a * 2 ^ min b.toNat k.bits))), 0 ≤ b)
  | .shr => (.v (.int k (a.fdiv (2 ^ min b.toNat k.bits))), 0 ≤ b)
  | _ => fail1

def strI (op : BinOp) (x y : ByteArray) : R1 :=
  match op with
  | .add => (.v (.str (x ++ y)), ((x.size + y.size : Nat) : Int) ≤ IntKind.i64.max)
  | .eql => (.v (.bool (x.toList == y.toList)), True)
  | .neq => (.v (.bool (!(x.toList == y.toList))), True)
  | _ => fail1

def pBin (P : Program) (op : BinOp) (t : TypeId) (x y : D) : R1 :=
  match x, y with
  | .v (.int k a), .v (.int k' b) => if isShift op then shiftI op k a b else if k == k' then arithI op k a b else fail1
  | .v (.str a), .v (.str b) => strI op a b
  | .v (.bool a), .v (.bool b) => match P.underlying t with
    | some .bool => (match op with | .eql => (.v (.bool (a == b)), True) | .neq => (.v (.bool (!(a == b))), True) | _ => fail1)
    | _ => fail1
  | _, _ => fail1

def pUn (op : UnOp) (x : D) : R1 :=
  match op, x with
  | .neg, .v (.int k n) => (.v (.int k (k.wrap (0 - n))), True)
  | .xor, .v (.int k n) => (.v (.int k (k.wrap (BitVec.ofInt k.bits (if k.signed then -1 else k.max) ^^^ BitVec.ofInt k.bits n).toNat)), True)
  | .not, .v (.bool b) => (.v (.bool (!b)), True)
  | _, _ => fail1

def pConv (P : Program) (src dst : TypeId) (x : D) : R1 :=
  if known P src then
    match P.underlying dst, x with
    | some (.int k), .v (.int _ n) => (match P.underlying src with | some .string => fail1 | _ => (.v (.int k (k.wrap n)), True))
    | some .string, .v (.str s) => (.v (.str s), True)
    | _, _ => fail1
  else fail1

def pLen (P : Program) (t : TypeId) (H : List Box) (x : D) : R1 :=
  match P.underlying t, x with
  | some .string, .v (.str s) => (.v (.int .i64 (s.size : Int)), True)
  | some (.array n _), _ => (.v (.int .i64 (n : Int)), True)
  | some (.slice _), .v (.sl _ _ _ l) => (.v (.int .i64 (l.length : Int)), True)
  | some (.slice _), .nils => (.v (.int .i64 0), True)
  | some (.slice _), .own id => match H[id]? with
    | some (.arr _ _ _ _ l) => (.v (.int .i64 (l.length : Int)), True)
    | _ => fail1
  | _, _ => fail1

def minI (x y : Int) : Int := if y < x then y else x
def maxI (x y : Int) : Int := if y > x then y else x

section
variable {P : Program} {S : Nat → Prop} {μ : Nat → Value} {w : World}

def hiV (n : Nat) (hi : Option Value) (h : Nat) : Prop := match hi with | none => h = n | some v => ∃ k, v = .int k h
def loV (lo : Option Value) (l : Nat) : Prop := match lo with | none => l = 0 | some v => ∃ k, v = .int k l

theorem run_sliceBounds {is : Bool} {n c l h : Nat} {lo hi : Option Value} (hh : hiV n hi h) (hl : loV lo l) (h1 : l ≤ h) (h2 : h ≤ c) :
    (Instr.sliceBounds is n c lo hi none).run P w = .ok (l, h, c) w := by
  have sb : ∀ (k : IntKind) (x y : Nat) (code : BoundsCode), x ≤ y → (Instr.sliceBound (.int k (x : Int)) y code).run P w = .ok x w := by
    intro k x y code hxy
    unfold Instr.sliceBound
    simp only [asIntOf, Sem.run_bind, Sem.run_pure, Result.andThen_ok]
    rw [if_pos ⟨by omega, by omega⟩]
    simp
  unfold Instr.sliceBounds
  cases hi with
  | none =>
    simp only [hiV] at hh
    subst hh
    cases lo with
    | none =>
      simp only [loV] at hl
      subst hl
      simp [Sem.run_bind]
    | some v =>
      obtain ⟨k, rfl⟩ := hl
      simp [Sem.run_bind, sb _ _ _ _ h1]
  | some v =>
    obtain ⟨k, rfl⟩ := hh
    cases lo with
    | none =>
      simp only [loV] at hl
      subst hl
      simp [Sem.run_bind, sb _ _ _ _ h2]
    | some v =>
      obtain ⟨k, rfl⟩ := hl
      simp [Sem.run_bind, sb _ _ _ _ h2, sb _ _ _ _ h1]

/-- An optional slot and its value. -/
def DRepO (S : Nat → Prop) (μ : Nat → Value) (w : World) : Option D → Option Value → Prop
  | none, none => True
  | some d, some u => DRep S μ w d u
  | _, _ => False

theorem isIntD_inv {d : D} (h : isIntD d = true) : ∃ k n, d = .v (.int k n) ∧ intD d = n := by
  unfold isIntD at h
  split at h
  · exact ⟨_, _, rfl, rfl⟩
  · cases h

theorem loV_of {lo : Option D} {ul : Option Value} (h : DRepO S μ w lo ul) (hi : isIntO lo = true) (h0 : 0 ≤ lowD lo) : loV ul (lowD lo).toNat := by
  cases lo with
  | none => cases ul with
    | none => simp [loV, lowD]
    | some _ => exact h.elim
  | some d => cases ul with
    | none => exact h.elim
    | some u =>
      obtain ⟨k, n, rfl, hn⟩ := isIntD_inv hi
      simp only [lowD] at h0 ⊢
      rw [hn] at h0 ⊢
      rw [int_inv h]
      exact ⟨k, by rw [Int.toNat_of_nonneg h0]⟩

theorem hiV_of {hi : Option D} {uh : Option Value} {n : Nat} (h : DRepO S μ w hi uh) (hi' : isIntO hi = true) (h0 : 0 ≤ highD n hi) : hiV n uh (highD n hi).toNat := by
  cases hi with
  | none => cases uh with
    | none => simp [hiV, highD]
    | some _ => exact h.elim
  | some d => cases uh with
    | none => exact h.elim
    | some u =>
      obtain ⟨k, m, rfl, hn⟩ := isIntD_inv hi'
      simp only [highD] at h0 ⊢
      rw [hn] at h0 ⊢
      rw [int_inv h]
      exact ⟨k, by rw [Int.toNat_of_nonneg h0]⟩

theorem take_high {α : Type} (l : List α) (hi : Option D) (h : highD l.length hi ≤ l.length) : takeHi l hi = l.take (highD l.length hi).toNat := by
  cases hi with
  | none => simp [takeHi, highD]
  | some d => rfl

theorem pSlice3_sound {t : TypeId} {x d : D} {lo hi mx : Option D} {p : Prop} {ux : Value} {ul uh um : Option Value} (hx : DRep S μ w x ux) (hl : DRepO S μ w lo ul) (hh : DRepO S μ w hi uh) (hm : DRepO S μ w mx um)
    (hp : pSlice3 P t x lo hi mx = (d, p)) (hob : p) : ∃ u, (Instr.sliceAt t ux ul uh um).run P w = .ok u w ∧ DRep S μ w d u := by
  unfold pSlice3 at hp
  split at hp
  · rename_i e sz α enc d' l k1 h' k2 h hu
    split at hp
    · rename_i hc
      simp only [Bool.and_eq_true, Nat.beq_eq] at hc
      obtain ⟨hk, rfl⟩ := hc
      simp only [Prod.mk.injEq] at hp
      obtain ⟨rfl, rfl⟩ := hp
      obtain ⟨h0, h1, rfl⟩ := hob
      obtain ⟨q, c, rfl, q1, q2, q3, q4⟩ := row_inv (sl_inv hx)
      have hul : ul = none := by cases ul with | none => rfl | some _ => exact hl.elim
      subst hul
      cases uh with
      | none => exact hh.elim
      | some vh =>
        cases um with
        | none => exact hm.elim
        | some vm =>
          have ev : vh = .int k1 h := by
            have := sl_inv hh
            cases this
            rfl
          have em : vm = .int k2 h := by
            have := sl_inv hm
            cases this
            rfl
          subst ev em
          have sb : ∀ (k : IntKind) (y : Nat) (code : BoundsCode), h.toNat ≤ y → (Instr.sliceBound (.int k h) y code).run P w = .ok h.toNat w := by
            intro k y code hxy
            unfold Instr.sliceBound
            simp only [asIntOf, Sem.run_bind, Sem.run_pure, Result.andThen_ok]
            rw [if_pos ⟨by omega, by omega⟩]
            simp
          have hr : (Instr.sliceBounds true l.length c none (some (.int k1 h)) (some (.int k2 h))).run P w = .ok (0, h.toNat, h.toNat) w := by
            unfold Instr.sliceBounds
            simp [Sem.run_bind, sb k2 c _ (by omega), sb k1 h.toNat _ (Nat.le_refl _)]
          refine ⟨.slice (if h.toNat = 0 then q else q.map (·.add (0 * szOf P e))) h.toNat h.toNat, ?_, .capd _ _ _ (row_mk ?_ (by rw [List.length_take]; omega) (by omega) ?_ (fun hpos => ?_))⟩
          · unfold Instr.sliceAt
            simp only [Sem.run_bind, run_underlying hu, Result.andThen_ok]
            unfold Instr.slice
            simp only [Sem.run_bind, run_underlying hu, Result.andThen_ok, hr, run_szOf hk, Sem.run_pure, Nat.sub_zero]
          · rw [List.length_take]; omega
          · intro hn
            by_cases hca : h.toNat = 0
            · exact hca
            · rw [if_neg hca] at hn
              have := q3 (by simpa using hn)
              omega
          · rw [List.length_take] at hpos
            obtain ⟨bb, off, us, rfl, r1, r2, r3, r4, r5⟩ := q4 (by omega)
            have hget : ∀ (i : Nat) (x : α), (l.take h.toNat)[i]? = some x → l[i]? = some x := by
              intro i x hx
              rw [List.getElem?_take] at hx
              split at hx
              · exact hx
              · cases hx
            refine ⟨bb, off, us, ?_, r1, r2, fun i x hx => r3 _ x (hget i x hx), fun i x j y hx hy => r4 _ x j y (hget i x hx) hy, fun i x j y hx hy => r5 _ x j y (hget i x hx) hy⟩
            rw [if_neg (by omega)]
            simp [addr_add]
    · cases hp; exact hob.elim
  · cases hp; exact hob.elim

theorem pSlice_sound {t : TypeId} {x d : D} {lo hi mx : Option D} {p : Prop} {ux : Value} {ul uh um : Option Value} (hx : DRep S μ w x ux) (hl : DRepO S μ w lo ul) (hh : DRepO S μ w hi uh) (hm : DRepO S μ w mx um)
    (hp : pSlice P t x lo hi mx = (d, p)) (hob : p) : ∃ u, (Instr.sliceAt t ux ul uh um).run P w = .ok u w ∧ DRep S μ w d u := by
  unfold pSlice at hp
  split at hp
  · exact pSlice3_sound hx hl hh hm hp hob
  split at hp
  · rename_i hc
    simp only [Bool.and_eq_true] at hc
    obtain ⟨⟨c1, c2⟩, c3⟩ := hc
    have hmx : mx = none := by simpa using c3
    subst hmx
    have hum : um = none := by cases um with | none => rfl | some _ => exact hm.elim
    subst hum
    split at hp
    · rename_i e sz α enc d' l hu
      split at hp
      · rename_i hc
        simp only [Bool.and_eq_true, Nat.beq_eq] at hc
        obtain ⟨hk, rfl⟩ := hc
        simp only [Prod.mk.injEq] at hp
        obtain ⟨rfl, rfl⟩ := hp
        obtain ⟨h0, h1, h2⟩ := hob
        obtain ⟨q, c, rfl, q1, q2, q3, q4⟩ := row_inv (sl_inv hx)
        have hr := run_sliceBounds (P := P) (w := w) (is := true) (c := c) (hiV_of (n := l.length) hh c2 (by omega)) (loV_of hl c1 h0) (by omega) (by omega)
        rw [take_high _ _ h2]
        generalize hLo : (lowD lo).toNat = a at *
        generalize hHi : (highD l.length hi).toNat = b at *
        have hab : a ≤ b := by omega
        have hbl : b ≤ l.length := by omega
        refine ⟨.slice (if c = a then q else q.map (·.add (a * szOf P e))) (b - a) (c - a), ?_, .v _ _ (row_mk ?_ ?_ (by omega) ?_ (fun hpos => ?_))⟩
        · unfold Instr.sliceAt
          simp only [Sem.run_bind, run_underlying hu, Result.andThen_ok]
          unfold Instr.slice
          simp only [Sem.run_bind, run_underlying hu, Result.andThen_ok, hr, run_szOf hk, Sem.run_pure]
        · rw [List.length_drop, List.length_take]; omega
        · rw [List.length_drop, List.length_take]; omega
        · intro hn
          by_cases hca : c = a
          · omega
          · rw [if_neg hca] at hn
            have := q3 (by simpa using hn)
            omega
        · rw [List.length_drop, List.length_take] at hpos
          obtain ⟨bb, off, us, rfl, r1, r2, r3, r4, r5⟩ := q4 (by omega)
          have hget : ∀ (i : Nat) (x : α), ((l.take b).drop a)[i]? = some x → l[a + i]? = some x := by
            intro i x hx
            rw [List.getElem?_drop, List.getElem?_take] at hx
            split at hx
            · exact hx
            · cases hx
          refine ⟨bb, off + a * szOf P e, fun i j => us (a + i) j, ?_, r1, r2, fun i x hx => r3 _ x (hget i x hx), fun i x j y hx hy => ?_, fun i x j y hx hy => r5 _ x j y (hget i x hx) hy⟩
          · rw [if_neg (by omega)]
            simp [addr_add]
          · have := r4 (a + i) x j y (hget i x hx) hy
            rw [← this]
            congr 2
            rw [Nat.add_mul]
            omega
      · cases hp; exact hob.elim
    · rename_i s hu
      simp only [Prod.mk.injEq] at hp
      obtain ⟨rfl, rfl⟩ := hp
      obtain ⟨h0, h1, h2⟩ := hob
      rw [str_inv hx]
      have hr := run_sliceBounds (P := P) (w := w) (is := false) (c := s.size) (hiV_of (n := s.size) hh c2 (by omega)) (loV_of hl c1 h0) (by omega) (by omega)
      refine ⟨_, ?_, .v _ _ (.str _)⟩
      unfold Instr.sliceAt
      simp only [Sem.run_bind, run_underlying hu, Result.andThen_ok]
      unfold Instr.slice
      simp only [Sem.run_bind, run_underlying hu, Result.andThen_ok, hr, Option.isSome_none, Bool.false_eq_true, if_false, Sem.run_pure]
    · cases hp; exact hob.elim
  · cases hp; exact hob.elim

theorem run_arith {op : BinOp} {k : IntKind} {a b : Int} {d : D} {p : Prop} (hs : isShift op = false) (hp : arithI op k a b = (d, p)) (hob : p) (t : TypeId) :
    ∃ u, (binOp op t (.int k a) (.int k b)).run P w = .ok u w ∧ DRep S μ w d u := by
  unfold arithI at hp
  cases op <;> simp only [fail1, Prod.mk.injEq] at hp <;> obtain ⟨rfl, rfl⟩ := hp <;>
    first
    | exact hob.elim
    | (refine ⟨_, ?_, .v _ _ (.int _ _)⟩; simp only [binOp, Op.intArith, Op.intDiv, Op.intBits, ne_eq, not_true_eq_false, if_false, Sem.run_pure]; done)
    | (refine ⟨_, ?_, .v _ _ (.int _ _)⟩; simp only [binOp, Op.intDiv, ne_eq, not_true_eq_false, if_false]; rw [if_neg hob]; rfl)
    | (refine ⟨_, ?_, .v _ _ (.bool _)⟩; simp only [binOp, Op.intCmp, ne_eq, not_true_eq_false, if_false, Sem.run_pure]; done)

theorem run_shiftI {op : BinOp} {k k' : IntKind} {a b : Int} {d : D} {p : Prop} (hp : shiftI op k a b = (d, p)) (hob : p) (t : TypeId) :
    ∃ u, (binOp op t (.int k a) (.int k' b)).run P w = .ok u w ∧ DRep S μ w d u := by
  unfold shiftI at hp
  cases op <;> simp only [fail1, Prod.mk.injEq] at hp <;> obtain ⟨rfl, rfl⟩ := hp <;>
    first
    | exact hob.elim
    | (refine ⟨_, ?_, .v _ _ (.int _ _)⟩; simp only [binOp, Op.shift]; rw [if_neg (by omega)]; rfl)

theorem run_strI {op : BinOp} {a b : ByteArray} {d : D} {p : Prop} (hp : strI op a b = (d, p)) (hob : p) (t : TypeId) :
    ∃ u, (binOp op t (.string a) (.string b)).run P w = .ok u w ∧ DRep S μ w d u := by
  unfold strI at hp
  cases op <;> simp only [fail1, Prod.mk.injEq] at hp <;> obtain ⟨rfl, rfl⟩ := hp <;>
    first
    | exact hob.elim
    | (refine ⟨_, ?_, .v _ _ (.bool _)⟩; simp only [binOp, Op.stringOp]; rfl)
    | (refine ⟨_, ?_, .v _ _ (.str _)⟩; simp only [binOp, Op.stringOp]; rw [if_neg (by omega)]; rfl)

theorem run_eqGuard_one {op : BinOp} {t : TypeId} {x y : Operand} {a b : Value} (h : ∀ us, a ≠ .agg us) (h' : a ≠ .nilIface) : (eqGuard op t x y a b).run P w = .ok () w := by
  unfold eqGuard
  cases a <;> first | exact absurd rfl h' | exact absurd rfl (h _) | (split <;> rfl)

theorem pBin_sound {op : BinOp} {t : TypeId} {x y d : D} {p : Prop} {ux uy : Value} (ox oy : Operand) (hx : DRep S μ w x ux) (hy : DRep S μ w y uy) (hp : pBin P op t x y = (d, p)) (hob : p) :
    ∃ u, (do eqGuard op t ox oy ux uy; binOp op t ux uy : Sem Value).run P w = .ok u w ∧ DRep S μ w d u := by
  unfold pBin at hp
  split at hp
  · rename_i k a k' b
    rw [int_inv hx, int_inv hy]
    simp only [Sem.run_bind, run_eqGuard_one (P := P) (w := w) (a := .int k a) (fun _ h => by cases h) (fun h => by cases h), Result.andThen_ok]
    split at hp
    · exact run_shiftI hp hob t
    · rename_i hs
      split at hp
      · rename_i hk
        have : k = k' := by simpa using hk
        subst this
        exact run_arith (by simpa using hs) hp hob t
      · cases hp; exact hob.elim
  · rename_i a b
    rw [str_inv hx, str_inv hy]
    simp only [Sem.run_bind, run_eqGuard_one (P := P) (w := w) (a := .string a) (fun _ h => by cases h) (fun h => by cases h), Result.andThen_ok]
    exact run_strI hp hob t
  · rename_i a b
    rw [bool_inv hx, bool_inv hy]
    simp only [Sem.run_bind, run_eqGuard_one (P := P) (w := w) (a := .bool a) (fun _ h => by cases h) (fun h => by cases h), Result.andThen_ok]
    split at hp
    · rename_i hu
      have he : (Op.equal t (.bool a) (.bool b)).run P w = .ok (a == b) w := by
        unfold Op.equal
        rw [show Op.maxDepth = 9999 + 1 from rfl, Op.equalIn]
        simp only [Sem.run_bind, run_underlying hu, Result.andThen_ok, Sem.run_pure]
      cases op <;> simp only [fail1, Prod.mk.injEq] at hp <;> obtain ⟨rfl, rfl⟩ := hp <;>
        first
        | exact hob.elim
        | (refine ⟨_, ?_, .v _ _ (.bool _)⟩; simp only [binOp, Sem.run_bind, he, Result.andThen_ok, Sem.run_pure])
    · cases hp; exact hob.elim
  · cases hp; exact hob.elim

theorem pUn_sound {op : UnOp} {x d : D} {p : Prop} {ux : Value} (hx : DRep S μ w x ux) (hp : pUn op x = (d, p)) (hob : p) :
    ∃ u, (Op.unary op ux).run P w = .ok u w ∧ DRep S μ w d u := by
  unfold pUn at hp
  split at hp
  · cases hp; rw [int_inv hx]; exact ⟨_, rfl, .v _ _ (.int _ _)⟩
  · cases hp; rw [int_inv hx]; exact ⟨_, rfl, .v _ _ (.int _ _)⟩
  · cases hp; rw [bool_inv hx]; exact ⟨_, rfl, .v _ _ (.bool _)⟩
  · cases hp; exact hob.elim

theorem pConv_sound {src dst : TypeId} {x d : D} {p : Prop} {ux : Value} (hx : DRep S μ w x ux) (hp : pConv P src dst x = (d, p)) (hob : p) :
    ∃ u, (convert src dst ux).run P w = .ok u w ∧ DRep S μ w d u := by
  unfold pConv at hp
  split at hp
  · rename_i hk
    unfold known at hk
    simp only [Bool.and_eq_true, Option.isSome_iff_exists] at hk
    obtain ⟨_, s, hs⟩ := hk
    split at hp
    · rename_i k k' n hd
      rw [int_inv hx]
      split at hp
      · cases hp; exact hob.elim
      · cases hp
        refine ⟨_, ?_, .v _ _ (.int _ _)⟩
        unfold convert
        simp only [Sem.run_bind, run_underlying hs, run_underlying hd, Result.andThen_ok, Conv.intToInt]
        rfl
    · rename_i s' hd
      cases hp
      rw [str_inv hx]
      refine ⟨_, ?_, .v _ _ (.str _)⟩
      unfold convert
      simp only [Sem.run_bind, run_underlying hs, run_underlying hd, Result.andThen_ok]
      rfl
    · cases hp; exact hob.elim
  · cases hp; exact hob.elim

theorem pLen_sound {t ty : TypeId} {H : List Box} (hH : HeapRel S μ w H) {x d : D} {p : Prop} {ux : Value} (hx : DRep S μ w x ux) (hp : pLen P t H x = (d, p)) (hob : p) :
    ∃ u, (Builtin.len_ #[t] ty #[ux]).run P w = .ok u w ∧ DRep S μ w d u := by
  have sl : ∀ (e : TypeId) (q : Option Addr) (n c : Nat), P.underlying t = some (.slice e) → (Builtin.len_ #[t] ty #[.slice q n c]).run P w = .ok (.int .i64 n) w := by
    intro e q n c hu
    simp [Builtin.len_, Sem.run_bind, run_underlying hu, goInt]
  unfold pLen at hp
  split at hp
  · rename_i s hu
    cases hp
    rw [str_inv hx]
    exact ⟨_, by simp [Builtin.len_, Sem.run_bind, run_underlying hu, goInt], .v _ _ (.int _ _)⟩
  · rename_i n e hu
    cases hp
    exact ⟨_, by simp [Builtin.len_, Sem.run_bind, run_underlying hu, goInt], .v _ _ (.int _ _)⟩
  · rename_i e sz α enc d' l hu
    cases hp
    obtain ⟨q, c, rfl, _⟩ := row_inv (sl_inv hx)
    exact ⟨_, sl _ _ _ _ hu, .v _ _ (.int _ _)⟩
  · rename_i e hu
    cases hp
    cases hx
    exact ⟨_, sl _ _ _ _ hu, .v _ _ (.int _ _)⟩
  · rename_i e id hu
    split at hp
    · rename_i E sz α enc d' l hb
      cases hp
      rw [own_inv hx]
      obtain ⟨q, c, hm, _⟩ := own_slice (hH.box id _ hb)
      rw [hm]
      exact ⟨_, sl _ _ _ _ hu, .v _ _ (.int _ _)⟩
    · cases hp; exact hob.elim
  · cases hp; exact hob.elim

end
end Go.Proofs.Ytjmfaebimgnblaa
