/-
  What single operations compute, on pure data; and that their runs compute that. Second part: addresses, parts, slices. Generic: over any program.
-/
import Derived.Test.YtjmfaebimgnblaaAiA
namespace Go.Proofs.Ytjmfaebimgnblaa
open Go.RowKit
set_option linter.unusedVariables false
set_option linter.unusedSimpArgs false

def shiftD (n : Nat) : D → R1
  | .ptr id i sz off => (.ptr id i sz (off + n), True)
  | .iptr cs off => (.iptr cs (off + n), True)
  | _ => fail1

def pFieldAddr (P : Program) (s : TypeId) (x : D) (f : Nat) : R1 :=
  match P.underlying s with
  | some (.struct fs) => match fs[f]? with
    | some fld => if known P fld.type && !(Nat.beq (szOf P fld.type) 0) then shiftD fld.offset x else fail1
    | none => fail1
  | _ => fail1

def pIndexAddr (P : Program) (t : TypeId) (H : List Box) (x i : D) : R1 :=
  match P.underlying t, x, i with
  | some (.slice e), .v (.sl sz enc d l), .v (.int _ n) => if known P e && Nat.beq (szOf P e) sz then (.iptr (enc (l.getD n.toNat d)) 0, 0 ≤ n ∧ n < l.length) else fail1
  | some (.slice e), .own id, .v (.int _ n) => match H[id]? with
    | some (.arr _ sz _ _ l) => if known P e && Nat.beq (szOf P e) sz then (.ptr id n.toNat sz 0, 0 ≤ n ∧ n < l.length) else fail1
    | _ => fail1
  | some (.array len e), x, .v (.int _ n) => if known P e then (match shiftD (n.toNat * szOf P e) x with | (y, p) => (y, (0 ≤ n ∧ n < (len : Int)) ∧ p)) else fail1
  | _, _, _ => fail1

def pField (P : Program) (t : TypeId) (x : D) (f : Nat) : R1 :=
  match P.underlying t, x with
  | some (.struct fs), .agg cs => match fs[f]? with
    | some fld => partOf P fld.type cs fld.offset
    | none => fail1
  | _, _ => fail1

def pIndex (P : Program) (t : TypeId) (x i : D) : R1 :=
  match P.underlying t, x, i with
  | some (.array len e), .agg cs, .v (.int _ n) => (match partOf P e cs (n.toNat * szOf P e) with | (y, p) => (y, (0 ≤ n ∧ n < (len : Int)) ∧ p))
  | some .string, .v (.str s), .v (.int _ n) => (.v (.int .u8 ((s[n.toNat]?).getD 0).toNat), 0 ≤ n ∧ n < s.size)
  | _, _, _ => fail1

def intD : D → Int
  | .v (.int _ n) => n
  | _ => 0
def isIntD : D → Bool
  | .v (.int _ _) => true
  | _ => false

/-- Bounds of a slice expression on n elements. -/
def lowD : Option D → Int
  | some d => intD d
  | none => 0
def highD (n : Int) : Option D → Int
  | some d => intD d
  | none => n
def isIntO : Option D → Bool
  | some d => isIntD d
  | none => true

/-- The elements ahead of the upper bound. -/
def takeHi {α : Type} (l : List α) : Option D → List α
  | some h => l.take (intD h).toNat
  | none => l

/-- A slice expression whose bounds are its capacity too. -/
def pSlice3 (P : Program) (t : TypeId) (x : D) (lo hi mx : Option D) : R1 :=
  match P.underlying t, x, lo, hi, mx with
  | some (.slice e), .v (.sl sz enc d l), none, some (.v (.int _ h)), some (.v (.int _ k)) => if known P e && Nat.beq (szOf P e) sz then
      (.capd (.sl sz enc d (l.take h.toNat)), 0 ≤ h ∧ h ≤ l.length ∧ k = h) else fail1
  | _, _, _, _, _ => fail1

def pSlice (P : Program) (t : TypeId) (x : D) (lo hi mx : Option D) : R1 :=
  if mx.isSome then pSlice3 P t x lo hi mx else
  if isIntO lo && isIntO hi && mx.isNone then
    match P.underlying t, x with
    | some (.slice e), .v (.sl sz enc d l) => if known P e && Nat.beq (szOf P e) sz then
        (.v (.sl sz enc d ((takeHi l hi).drop (lowD lo).toNat)), 0 ≤ lowD lo ∧ lowD lo ≤ highD l.length hi ∧ highD l.length hi ≤ l.length) else fail1
    | some .string, .v (.str s) => (.v (.str (s.extract (lowD lo).toNat (highD s.size hi).toNat)), 0 ≤ lowD lo ∧ lowD lo ≤ highD s.size hi ∧ highD s.size hi ≤ s.size)
    | _, _ => fail1
  else fail1

section
variable {P : Program} {S : Nat → Prop} {μ : Nat → Value} {w : World}

theorem shiftD_sound {n : Nat} {x d : D} {p : Prop} {ux : Value} (hx : DRep S μ w x ux) (hp : shiftD n x = (d, p)) (hob : p) :
    ∃ b o, ux = .pointer (some ⟨b, o, none⟩) ∧ DRep S μ w d (.pointer (some ⟨b, o + n, none⟩)) := by
  unfold shiftD at hp
  split at hp
  · rename_i id i sz off
    obtain ⟨b, hb, rfl⟩ := ptr_inv hx
    cases hp
    exact ⟨b, _, rfl, by rw [Nat.add_assoc]; exact .ptr _ _ _ _ _ hb⟩
  · rename_i cs off
    cases hp
    cases hx with
    | iptr _ _ b o us h1 h2 h3 h4 => exact ⟨b, _, rfl, by rw [Nat.add_assoc]; exact .iptr cs _ b o us h1 h2 h3 h4⟩
  · cases hp; exact hob.elim

theorem pFieldAddr_sound {s : TypeId} {x d : D} {f : Nat} {p : Prop} {ux : Value} (hx : DRep S μ w x ux) (hp : pFieldAddr P s x f = (d, p)) (hob : p) :
    ∃ u, (Instr.fieldAt s ux f).run P w = .ok u w ∧ DRep S μ w d u := by
  unfold pFieldAddr at hp
  split at hp
  · rename_i fs hu
    split at hp
    · rename_i fld hf
      split at hp
      · rename_i hc
        simp only [Bool.and_eq_true, Bool.not_eq_true', Nat.beq_eq] at hc
        obtain ⟨hk, hz⟩ := hc
        have hz : szOf P fld.type ≠ 0 := by
          intro e
          rw [e] at hz
          cases hz
        obtain ⟨b, o, rfl, hd⟩ := shiftD_sound hx hp hob
        refine ⟨_, ?_, hd⟩
        have hr : (fieldPlace ⟨b, o, none⟩ fld).run P w = .ok ⟨b, o + fld.offset, none⟩ w := by
          unfold fieldPlace
          simp only [Sem.run_bind, run_szOf hk, Result.andThen_ok]
          rw [if_neg hz, Sem.run_pure, addr_add]
        simp only [Instr.fieldAt, Sem.run_bind, run_underlying hu, Result.andThen_ok, hf, Instr.sureAddr, Sem.run_pure, hr]
      · cases hp; exact hob.elim
    · cases hp; exact hob.elim
  · cases hp; exact hob.elim

theorem row_inv {sz : Nat} {α : Type} {enc : α → List V} {d : α} {l : List α} {u : Value} (h : Rep S w (.sl sz enc d l) u) :
    ∃ p c, u = .slice p l.length c ∧ l.length ≤ c ∧ c ≤ maxLen ∧ (p = none → c = 0) ∧ (0 < l.length → ∃ (b off : Nat) (us : Nat → Nat → Value), p = some ⟨b, off, none⟩ ∧ S b ∧ b < w.heap.size ∧
      (∀ (i : Nat) (x : α), l[i]? = some x → (enc x).length = sz) ∧
      (∀ (i : Nat) (x : α) (j : Nat) (y : V), l[i]? = some x → (enc x)[j]? = some y → w.cell? ⟨b, off + (i * sz + j), none⟩ = some (us i j)) ∧
      (∀ (i : Nat) (x : α) (j : Nat) (y : V), l[i]? = some x → (enc x)[j]? = some y → Rep S w y (us i j))) := by
  generalize hv : V.sl sz enc d l = v at h
  cases h with
  | int k n => cases hv
  | bool b => cases hv
  | str s => cases hv
  | nil sz' enc' d' p c h1 h2 =>
    cases hv
    exact ⟨p, c, rfl, Nat.zero_le _, h1, h2, fun h => absurd h (by simp)⟩
  | row sz' enc' d' l' b off c n us h1 h2 h3 h4 h5 h6 h7 h8 =>
    cases hv
    subst h3
    exact ⟨_, c, rfl, h4, h5, (fun h => by cases h), fun _ => ⟨b, off, us, rfl, h1, h2, h6, h7, h8⟩⟩

theorem row_mk {sz : Nat} {α : Type} {enc : α → List V} {d : α} {l : List α} {p : Option Addr} {n c : Nat} (hn : n = l.length) (h1 : l.length ≤ c) (h2 : c ≤ maxLen) (h3 : p = none → c = 0)
    (h : 0 < l.length → ∃ (b off : Nat) (us : Nat → Nat → Value), p = some ⟨b, off, none⟩ ∧ S b ∧ b < w.heap.size ∧
      (∀ (i : Nat) (x : α), l[i]? = some x → (enc x).length = sz) ∧
      (∀ (i : Nat) (x : α) (j : Nat) (y : V), l[i]? = some x → (enc x)[j]? = some y → w.cell? ⟨b, off + (i * sz + j), none⟩ = some (us i j)) ∧
      (∀ (i : Nat) (x : α) (j : Nat) (y : V), l[i]? = some x → (enc x)[j]? = some y → Rep S w y (us i j))) : Rep S w (.sl sz enc d l) (.slice p n c) := by
  subst hn
  cases l with
  | nil => exact .nil sz enc d p c h2 h3
  | cons x l =>
    obtain ⟨b, off, us, rfl, q1, q2, q3, q4, q5⟩ := h (by simp)
    exact .row sz enc d _ b off c _ us q1 q2 rfl h1 h2 q3 q4 q5

theorem own_slice {E sz : Nat} {α : Type} {enc : α → List V} {d : α} {l : List α} {u : Value} (h : BoxRel S μ w u (.arr E sz enc d l)) :
    ∃ p c, u = .slice p l.length c ∧ l.length ≤ c ∧ c ≤ maxLen ∧ (p = none → c = 0) ∧ (0 < l.length → ∃ g, p = some ⟨g, 0, none⟩) := by
  obtain ⟨_, xs, ⟨h1, h2⟩, _⟩ := h
  rcases h2 with ⟨rfl, hl⟩ | ⟨g, cap, cur, rfl, hg, hh, q1, q2, _⟩
  · exact ⟨none, 0, by rw [hl], by omega, by simp [maxLen], fun _ => rfl, fun h => by omega⟩
  · exact ⟨_, cap, rfl, q1, q2, (fun h => by cases h), fun _ => ⟨g, rfl⟩⟩

theorem int_inv {k : IntKind} {n : Int} {u : Value} (h : DRep S μ w (.v (.int k n)) u) : u = .int k n := by
  cases h with | v _ _ h => cases h; rfl
theorem bool_inv {b : Bool} {u : Value} (h : DRep S μ w (.v (.bool b)) u) : u = .bool b := by
  cases h with | v _ _ h => cases h; rfl
theorem str_inv {s : ByteArray} {u : Value} (h : DRep S μ w (.v (.str s)) u) : u = .string s := by
  cases h with | v _ _ h => cases h; rfl
theorem sl_inv {x : V} {u : Value} (h : DRep S μ w (.v x) u) : Rep S w x u := by
  cases h with | v _ _ h => exact h
theorem own_inv {id : Nat} {u : Value} (h : DRep S μ w (.own id) u) : u = μ id := by
  cases h; rfl

theorem run_indexAt_in {t e : TypeId} {p : Addr} {len c : Nat} {k : IntKind} {n : Int} (hu : P.underlying t = some (.slice e)) (hk : known P e = true) (h0 : 0 ≤ n) (h1 : n < len) :
    (Instr.indexAt t (.slice (some p) len c) (.int k n)).run P w = .ok (.pointer (some (p.add (n.toNat * szOf P e)))) w := by
  unfold Instr.indexAt
  simp only [asIntOf, Sem.run_bind, Sem.run_pure, Result.andThen_ok, run_underlying hu]
  rw [if_pos ⟨h0, h1⟩]
  simp only [Sem.run_bind, run_szOf hk, Result.andThen_ok, Sem.run_pure]

theorem run_indexAt_arr {t e : TypeId} {p : Addr} {len : Nat} {k : IntKind} {n : Int} (hu : P.underlying t = some (.array len e)) (hk : known P e = true) (h0 : 0 ≤ n) (h1 : n < len) :
    (Instr.indexAt t (.pointer (some p)) (.int k n)).run P w = .ok (.pointer (some (p.add (n.toNat * szOf P e)))) w := by
  unfold Instr.indexAt
  simp only [asIntOf, Sem.run_bind, Sem.run_pure, Result.andThen_ok, run_underlying hu, Instr.sureAddr]
  rw [if_pos ⟨h0, h1⟩]
  simp only [Sem.run_bind, run_szOf hk, Result.andThen_ok, Sem.run_pure]

theorem pIndexAddr_sound {t : TypeId} {H : List Box} (hH : HeapRel S μ w H) {x i d : D} {p : Prop} {ux ui : Value} (hx : DRep S μ w x ux) (hi : DRep S μ w i ui) (hp : pIndexAddr P t H x i = (d, p)) (hob : p) :
    ∃ u, (Instr.indexAt t ux ui).run P w = .ok u w ∧ DRep S μ w d u := by
  unfold pIndexAddr at hp
  split at hp
  · rename_i e sz α enc d' l k n hu
    split at hp
    · rename_i hc
      simp only [Bool.and_eq_true, Nat.beq_eq] at hc
      obtain ⟨hk, rfl⟩ := hc
      simp only [Prod.mk.injEq] at hp
      obtain ⟨rfl, rfl⟩ := hp
      obtain ⟨h0, h1⟩ := hob
      rw [int_inv hi]
      obtain ⟨q, c, rfl, q1, q2, q3, q4⟩ := row_inv (sl_inv hx)
      obtain ⟨b, off, us, rfl, r1, r2, r3, r4, r5⟩ := q4 (by omega)
      refine ⟨_, run_indexAt_in hu hk h0 (by omega), ?_⟩
      have hl : l[n.toNat]? = some (l.getD n.toNat d') := by rw [getD_lt _ _ (by omega)]; exact List.getElem?_eq_getElem (by omega)
      rw [addr_add]
      have := DRep.iptr (S := S) (μ := μ) (w := w) (enc (l.getD n.toNat d')) 0 b (off + n.toNat * szOf P e) (us n.toNat) r1 r2 (fun j y hy => by rw [Nat.add_assoc]; exact r4 _ _ _ _ hl hy) (fun j y hy => r5 _ _ _ _ hl hy)
      rwa [Nat.add_zero] at this
    · cases hp; exact hob.elim
  · rename_i e id k n hu
    split at hp
    · rename_i E sz α enc d' l hbox
      split at hp
      · rename_i hc
        simp only [Bool.and_eq_true, Nat.beq_eq] at hc
        obtain ⟨hk, rfl⟩ := hc
        simp only [Prod.mk.injEq] at hp
        obtain ⟨rfl, rfl⟩ := hp
        obtain ⟨h0, h1⟩ := hob
        rw [int_inv hi, own_inv hx]
        obtain ⟨q, c, hm, q1, q2, q3, q4⟩ := own_slice (hH.box id _ hbox)
        obtain ⟨g, rfl⟩ := q4 (by omega)
        rw [hm]
        refine ⟨_, run_indexAt_in hu hk h0 (by omega), ?_⟩
        rw [addr_add, Nat.zero_add]
        have := DRep.ptr (S := S) (w := w) id n.toNat (szOf P e) 0 g (by rw [hm]; rfl : blkOf (μ id) = some g)
        rwa [Nat.add_zero] at this
      · cases hp; exact hob.elim
    · cases hp; exact hob.elim
  · rename_i x _ _ _ len e k n hu
    split at hp
    · rename_i hk
      generalize hq : shiftD (n.toNat * szOf P e) x = q at hp
      obtain ⟨y, p'⟩ := q
      simp only [Prod.mk.injEq] at hp
      obtain ⟨rfl, rfl⟩ := hp
      obtain ⟨⟨h0, h1⟩, hob⟩ := hob
      obtain ⟨b, o, rfl, hd⟩ := shiftD_sound hx hq hob
      rw [int_inv hi]
      exact ⟨_, run_indexAt_arr hu hk h0 (by omega), by rw [addr_add]; exact hd⟩
    · cases hp; exact hob.elim
  · cases hp; exact hob.elim

theorem run_part {t : TypeId} {cs : List D} {us : Array Value} {off : Nat} {d : D} {p : Prop} (hs : us.size = cs.length) (h : ∀ (j : Nat) (y : D) (u : Value), cs[j]? = some y → us[j]? = some u → DRep S μ w y u)
    (hp : partOf P t cs off = (d, p)) (hob : p) : ∃ u, (part t us off).run P w = .ok u w ∧ DRep S μ w d u := by
  unfold partOf at hp
  split at hp
  · rename_i hc
    simp only [Bool.and_eq_true, Bool.or_eq_true, Nat.ble_eq, Nat.beq_eq] at hc
    obtain ⟨⟨hk, hl⟩, hz⟩ := hc
    simp only [Prod.mk.injEq] at hp
    obtain ⟨rfl, _⟩ := hp
    unfold part
    simp only [Sem.run_bind, run_aggOf hk, Result.andThen_ok]
    cases ha : aggOf P t
    · simp only [Bool.false_eq_true, if_false]
      rw [ha] at hz
      have hs1 : szOf P t = 1 := by simpa using hz
      have hlt : off < cs.length := by omega
      have hu : us[off]? = some us[off] := Array.getElem?_eq_getElem (by omega)
      refine ⟨us[off], by rw [hu]; rfl, ?_⟩
      rw [getD_lt _ _ hlt]
      exact h off _ _ (List.getElem?_eq_getElem hlt) hu
    · simp only [if_true]
      refine ⟨.agg (us.extract off (off + szOf P t)), by simp only [Sem.run_bind, run_szOf hk, Result.andThen_ok, Sem.run_pure], .agg _ _ ?_ (fun j y u hy hu => ?_)⟩
      · simp; omega
      · rw [List.getElem?_take] at hy
        split at hy
        · rename_i hj
          rw [List.getElem?_drop] at hy
          rw [Array.getElem?_extract, if_pos (by omega)] at hu
          exact h _ _ _ hy hu
        · cases hy
  · simp only [fail1, Prod.mk.injEq] at hp
    obtain ⟨_, rfl⟩ := hp
    exact hob.elim

theorem agg_inv {cs : List D} {u : Value} (h : DRep S μ w (.agg cs) u) : ∃ us : Array Value, u = .agg us ∧ us.size = cs.length ∧ ∀ (j : Nat) (y : D) (u : Value), cs[j]? = some y → us[j]? = some u → DRep S μ w y u := by
  cases h with | agg _ us h1 h2 => exact ⟨us, rfl, h1, h2⟩
theorem tup_inv {cs : List D} {u : Value} (h : DRep S μ w (.tup cs) u) : ∃ us : Array Value, u = .tuple us ∧ us.size = cs.length ∧ ∀ (j : Nat) (y : D) (u : Value), cs[j]? = some y → us[j]? = some u → DRep S μ w y u := by
  cases h with | tup _ us h1 h2 => exact ⟨us, rfl, h1, h2⟩

theorem pField_sound {t : TypeId} {x d : D} {f : Nat} {p : Prop} {ux : Value} (hx : DRep S μ w x ux) (hp : pField P t x f = (d, p)) (hob : p) :
    ∃ u, (Instr.field t ux f).run P w = .ok u w ∧ DRep S μ w d u := by
  unfold pField at hp
  split at hp
  · rename_i fs cs hu
    split at hp
    · rename_i fld hf
      obtain ⟨us, rfl, h1, h2⟩ := agg_inv hx
      obtain ⟨u, h3, h4⟩ := run_part (P := P) h1 h2 hp hob
      exact ⟨u, by simp only [Instr.field, Sem.run_bind, run_underlying hu, Result.andThen_ok, hf, asAgg, Sem.run_pure, h3], h4⟩
    · cases hp; exact hob.elim
  · cases hp; exact hob.elim

theorem pIndex_sound {t : TypeId} {x i d : D} {p : Prop} {ux ui : Value} (hx : DRep S μ w x ux) (hi : DRep S μ w i ui) (hp : pIndex P t x i = (d, p)) (hob : p) :
    ∃ u, (Instr.index t ux ui).run P w = .ok u w ∧ DRep S μ w d u := by
  unfold pIndex at hp
  split at hp
  · rename_i len e cs k n hu
    generalize hq : partOf P e cs (n.toNat * szOf P e) = q at hp
    obtain ⟨y, p'⟩ := q
    simp only [Prod.mk.injEq] at hp
    obtain ⟨rfl, rfl⟩ := hp
    obtain ⟨⟨h0, h1⟩, hob⟩ := hob
    rw [int_inv hi]
    obtain ⟨us, rfl, h2, h3⟩ := agg_inv hx
    have hk : known P e = true := by
      unfold partOf at hq
      split at hq
      · rename_i hc
        simp only [Bool.and_eq_true] at hc
        exact hc.1.1
      · cases hq; exact hob.elim
    obtain ⟨u, h4, h5⟩ := run_part (P := P) h2 h3 hq hob
    refine ⟨u, ?_, h5⟩
    unfold Instr.index
    simp only [asIntOf, Sem.run_bind, Sem.run_pure, Result.andThen_ok, run_underlying hu]
    rw [if_pos ⟨h0, h1⟩]
    simp only [Sem.run_bind, run_szOf hk, Result.andThen_ok, h4]
  · rename_i s k n hu
    simp only [Prod.mk.injEq] at hp
    obtain ⟨rfl, rfl⟩ := hp
    obtain ⟨h0, h1⟩ := hob
    rw [int_inv hi, str_inv hx]
    have hn : n.toNat < s.size := by omega
    have hs : s[n.toNat]? = some s[n.toNat] := by simp [hn]
    refine ⟨.int .u8 (s[n.toNat]).toNat, ?_, ?_⟩
    · unfold Instr.index
      simp only [asIntOf, Sem.run_bind, Sem.run_pure, Result.andThen_ok, run_underlying hu]
      rw [if_pos h0, hs]
      rfl
    · rw [hs]
      exact .v _ _ (.int _ _)
  · cases hp; exact hob.elim

end
end Go.Proofs.Ytjmfaebimgnblaa
