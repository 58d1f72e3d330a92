/-
  What single operations compute, on pure data; and that their runs compute that. First part: operations that leave memory alone. Generic: over any program.
-/
import Derived.Test.YtjmfaebimgnblaaAiV
namespace Go.Proofs.Ytjmfaebimgnblaa
open Go.RowKit
set_option linter.unusedVariables false
set_option linter.unusedSimpArgs false

def D.ofVal1 : Value → D
  | .int k n => .v (.int k n)
  | .bool b => .v (.bool b)
  | .string s => .v (.str s)
  | .slice none 0 0 => .nils
  | .func f a b => if a.isEmpty && b.isEmpty then .fn f [] [] else .junk
  | _ => .junk
def D.ofVal : Value → D
  | .agg us => .agg (us.toList.map D.ofVal1)
  | u => D.ofVal1 u

theorem getD_lt {α : Type _} (l : List α) (d : α) {i : Nat} (h : i < l.length) : l.getD i d = l[i] := by simp [List.getD, h]

theorem DRep.ofVal1 (S : Nat → Prop) (μ : Nat → Value) (w : World) (u : Value) : DRep S μ w (D.ofVal1 u) u := by
  unfold D.ofVal1
  split
  · exact .v _ _ (.int _ _)
  · exact .v _ _ (.bool _)
  · exact .v _ _ (.str _)
  · exact .nils
  · split
    · rename_i f a b h
      simp only [Bool.and_eq_true, Array.isEmpty_iff] at h
      obtain ⟨rfl, rfl⟩ := h
      exact .fn f [] [] #[] #[] rfl (fun j y u h => by simp at h) rfl (fun j y u h => by simp at h)
    · exact .junk _
  · exact .junk _

theorem DRep.ofVal (S : Nat → Prop) (μ : Nat → Value) (w : World) (u : Value) : DRep S μ w (D.ofVal u) u := by
  unfold D.ofVal
  split
  · rename_i us
    refine .agg _ us (by simp) (fun j y u hy hu => ?_)
    simp only [List.getElem?_map, Array.getElem?_toList, hu, Option.map_some, Option.some.injEq] at hy
    subst hy
    exact DRep.ofVal1 S μ w u
  · exact DRep.ofVal1 S μ w _

/-- A result, and what must hold for it. -/
abbrev R1 := D × Prop
def fail1 : R1 := (.junk, False)

def szOf (P : Program) (t : TypeId) : Nat := ((P.info? t).map (·.size)).getD 0
def aggOf (P : Program) (t : TypeId) : Bool := match P.underlying t with | some (.struct _) => true | some (.array _ _) => true | _ => false
def known (P : Program) (t : TypeId) : Bool := (P.info? t).isSome && (P.underlying t).isSome

/-- The cells off .. off + size, as a value of type t. -/
def partOf (P : Program) (t : TypeId) (cs : List D) (off : Nat) : R1 :=
  if known P t && Nat.ble (off + szOf P t) cs.length && (aggOf P t || Nat.beq (szOf P t) 1) then
    (if aggOf P t then .agg ((cs.drop off).take (szOf P t)) else cs.getD off .junk, True)
  else fail1

def pLoad (P : Program) (t : TypeId) (H : List Box) : D → R1
  | .ptr id i sz off => match H[id]? with
    | some (.var _ cs) => if Nat.beq i 0 then partOf P t cs off else fail1
    | some (.arr _ sz' enc d l) => if Nat.beq sz sz' then
        (match partOf P t ((enc (l.getD i d)).map D.v) off with | (x, p) => (x, i < l.length ∧ p)) else fail1
    | _ => fail1
  | .iptr cs off => partOf P t (cs.map D.v) off
  | _ => fail1

section
variable {P : Program} {S : Nat → Prop} {μ : Nat → Value} {w : World}

theorem run_szOf {t : TypeId} (h : known P t = true) (w : World) : (sizeOf t).run P w = .ok (szOf P t) w := by
  unfold known at h
  cases hi : P.info? t with
  | none => simp [hi] at h
  | some i => simp [sizeOf, typeInfo, hi, szOf]

theorem run_aggOf {t : TypeId} (h : known P t = true) (w : World) : (isAgg t).run P w = .ok (aggOf P t) w := by
  unfold known at h
  cases hu : P.underlying t with
  | none => simp [hu] at h
  | some d =>
    unfold isAgg
    simp only [Sem.run_bind, run_underlying hu, Result.andThen_ok]
    unfold aggOf
    rw [hu]
    cases d <;> rfl

/-- Cells in memory that read as cs. -/
def CellsAt (S : Nat → Prop) (μ : Nat → Value) (w : World) (b o : Nat) (cs : List D) : Prop :=
  ∀ (j : Nat) (y : D), cs[j]? = some y → ∃ u, w.cell? ⟨b, o + j, none⟩ = some u ∧ DRep S μ w y u

theorem addr_add (b o i : Nat) : (⟨b, o, none⟩ : Addr).add i = ⟨b, o + i, none⟩ := by unfold Addr.add; split <;> simp_all

theorem run_loadCellsFrom {b o : Nat} {cs : List D} (h : CellsAt S μ w b o cs) : ∀ (n i : Nat) (acc : Array Value), i + n ≤ cs.length →
    ∃ us : Array Value, (loadCellsFrom ⟨b, o, none⟩ i n acc).run P w = .ok (acc ++ us) w ∧ us.size = n ∧ ∀ (j : Nat) (y : D) (u : Value), cs[i + j]? = some y → us[j]? = some u → DRep S μ w y u
  | 0, i, acc, _ => ⟨#[], by simp [loadCellsFrom], rfl, fun j y u _ hu => by simp at hu⟩
  | n + 1, i, acc, hl => by
    have hi : i < cs.length := by omega
    obtain ⟨u, hu, hr⟩ := h i cs[i] (List.getElem?_eq_getElem hi)
    obtain ⟨us, h1, h2, h3⟩ := run_loadCellsFrom h n (i + 1) (acc.push u) (by omega)
    refine ⟨#[u] ++ us, ?_, by simp [h2]; omega, fun j y x hy hx => ?_⟩
    · have hld : (load ⟨b, o + i, none⟩).run P w = .ok u w := by simp [load, Sem.run, hu]
      rw [loadCellsFrom, addr_add, Sem.run_bind, hld, Result.andThen_ok, h1]
      congr 1
      rw [Array.push_eq_append, Array.append_assoc]
    · cases j with
      | zero =>
        have hx' : x = u := by
          rw [Array.getElem?_append_left (by simp)] at hx
          simpa using hx.symm
        rw [hx']
        rw [Nat.add_zero, List.getElem?_eq_getElem hi] at hy
        cases hy
        exact hr
      | succ j =>
        refine h3 j y x (by rw [show i + 1 + j = i + (j + 1) from by omega]; exact hy) ?_
        rw [Array.getElem?_append_right (by simp)] at hx
        simpa using hx

theorem partOf_load {t : TypeId} {cs : List D} {off b o : Nat} {d : D} {p : Prop} (hp : partOf P t cs off = (d, p)) (hob : p) (h : CellsAt S μ w b o cs) :
    ∃ u, (loadVar t ⟨b, o + off, none⟩).run P w = .ok u w ∧ DRep S μ w d u := by
  unfold partOf at hp
  split at hp
  · rename_i hc
    simp only [Bool.and_eq_true, Bool.or_eq_true, Nat.ble_eq, Nat.beq_eq] at hc
    obtain ⟨⟨hk, hl⟩, hs⟩ := hc
    simp only [Prod.mk.injEq] at hp
    obtain ⟨rfl, _⟩ := hp
    have h' : CellsAt S μ w b (o + off) (cs.drop off) := fun j y hy => by
      rw [List.getElem?_drop] at hy
      rw [Nat.add_assoc]
      exact h _ _ hy
    unfold loadVar
    simp only [Sem.run_bind, run_aggOf hk, Result.andThen_ok]
    cases ha : aggOf P t
    · simp only [Bool.false_eq_true, if_false]
      rw [ha] at hs
      have hs1 : szOf P t = 1 := by simpa using hs
      have hlt : off < cs.length := by omega
      obtain ⟨u, hu, hr⟩ := h off cs[off] (List.getElem?_eq_getElem hlt)
      refine ⟨u, by simp [load, Sem.run, hu], ?_⟩
      rw [getD_lt _ _ hlt]
      exact hr
    · simp only [if_true]
      obtain ⟨us, h1, h2, h3⟩ := run_loadCellsFrom (P := P) h' (szOf P t) 0 #[] (by rw [List.length_drop]; omega)
      refine ⟨.agg us, ?_, .agg _ _ (by rw [h2, List.length_take, List.length_drop]; omega) (fun j y u hy hu => h3 j y u ?_ hu)⟩
      · simp only [Sem.run_bind, run_szOf hk, Result.andThen_ok, loadCells, h1, Sem.run_pure, Array.empty_append]
      · rw [List.getElem?_take] at hy
        split at hy
        · simpa using hy
        · cases hy
  · simp only [fail1, Prod.mk.injEq] at hp
    obtain ⟨_, rfl⟩ := hp
    exact hob.elim

theorem own_cells {E sz n : Nat} {u : Value} {xs : List Value} (h : w.ownsRow 0 E sz u n xs) {b : Nat} (hb : blkOf u = some b) : ∀ j z, xs[j]? = some z → w.cell? ⟨b, j, none⟩ = some z := by
  intro j z hz
  have hob : u.ownBlock = some b := by
    cases u <;> simp [blkOf] at hb ⊢
    · obtain ⟨h1, h2⟩ := h
      rcases h2 with ⟨h2, _⟩ | ⟨_, _, _, h2, _⟩ <;> cases h2
    · rename_i a len cap
      cases a with
      | none => simp at hb
      | some a => simp at hb; simp [Value.ownBlock, hb]
  have := h.cells hob j z hz
  rwa [addr_add, Nat.zero_add] at this

/-- The cells of an element of a box. -/
theorem BoxRel.arr_cells {E sz : Nat} {α : Type} {enc : α → List V} {d : α} {l : List α} {u : Value} (h : BoxRel S μ w u (.arr E sz enc d l)) {b i : Nat} (hb : blkOf u = some b) (hi : i < l.length) :
    CellsAt S μ w b (i * sz) ((enc (l.getD i d)).map D.v) := by
  obtain ⟨h0, xs, h1, h2⟩ := h
  intro j y hy
  rw [List.getElem?_map] at hy
  have hx : l[i]? = some (l.getD i d) := by rw [getD_lt _ _ hi]; exact List.getElem?_eq_getElem hi
  cases he : (enc (l.getD i d))[j]? with
  | none => rw [he] at hy; cases hy
  | some z =>
    rw [he] at hy
    simp only [Option.map_some, Option.some.injEq] at hy
    subst hy
    obtain ⟨q, hq, hr⟩ := h2 i _ j z hx he
    exact ⟨q, own_cells h1 hb _ _ hq, .v _ _ hr⟩

theorem BoxRel.var_cells {T : TypeId} {cs : List D} {u : Value} (h : BoxRel S μ w u (.var T cs)) {b : Nat} (hb : blkOf u = some b) : CellsAt S μ w b 0 cs := by
  obtain ⟨b', vs, rfl, h1, h2, h3⟩ := h
  simp [blkOf] at hb
  subst hb
  intro j y hy
  have hj := (List.getElem?_eq_some_iff.1 hy).1
  have hv : vs[j]? = some vs[j] := Array.getElem?_eq_getElem (by omega)
  refine ⟨vs[j], ?_, h3 j y _ hy hv⟩
  simp [World.cell?, h1, hv]

theorem iptr_cells {cs : List V} {off : Nat} {u : Value} (h : DRep S μ w (.iptr cs off) u) : ∃ b o, u = .pointer (some ⟨b, o + off, none⟩) ∧ CellsAt S μ w b o (cs.map D.v) := by
  cases h with
  | iptr _ _ b o us h1 h2 h3 h4 =>
    refine ⟨b, o, rfl, fun j y hy => ?_⟩
    rw [List.getElem?_map] at hy
    cases he : cs[j]? with
    | none => rw [he] at hy; cases hy
    | some z =>
      rw [he] at hy
      simp only [Option.map_some, Option.some.injEq] at hy
      subst hy
      exact ⟨_, h3 j z he, .v _ _ (h4 j z he)⟩

theorem ptr_inv {id i sz off : Nat} {u : Value} (h : DRep S μ w (.ptr id i sz off) u) : ∃ b, blkOf (μ id) = some b ∧ u = .pointer (some ⟨b, i * sz + off, none⟩) := by
  cases h with
  | ptr _ _ _ _ b h => exact ⟨b, h, rfl⟩

theorem pLoad_sound {t : TypeId} {H : List Box} (hH : HeapRel S μ w H) {a d : D} {p : Prop} {ua : Value} (ha : DRep S μ w a ua) (hp : pLoad P t H a = (d, p)) (hob : p) :
    ∃ u, (Instr.loadAt t ua).run P w = .ok u w ∧ DRep S μ w d u := by
  unfold pLoad at hp
  split at hp
  · rename_i id i sz off
    obtain ⟨b, hb, rfl⟩ := ptr_inv ha
    split at hp
    · rename_i T cs hbox
      split at hp
      · rename_i hi
        simp only [Nat.beq_eq] at hi
        subst hi
        obtain ⟨u, h1, h2⟩ := partOf_load (P := P) hp hob ((hH.box id _ hbox).var_cells hb)
        refine ⟨u, ?_, h2⟩
        simpa [Instr.loadAt, Instr.sureAddr] using h1
      · cases hp; exact hob.elim
    · rename_i E sz' enc d' l hbox
      split at hp
      · rename_i hs
        simp only [Nat.beq_eq] at hs
        subst hs
        generalize hq : partOf P t ((enc (l.getD i d')).map D.v) off = q at hp
        obtain ⟨x, p'⟩ := q
        simp only [Prod.mk.injEq] at hp
        obtain ⟨rfl, rfl⟩ := hp
        obtain ⟨u, h1, h2⟩ := partOf_load (P := P) hq hob.2 ((hH.box id _ hbox).arr_cells hb hob.1)
        refine ⟨u, ?_, h2⟩
        simpa [Instr.loadAt, Instr.sureAddr] using h1
      · cases hp; exact hob.elim
    · cases hp; exact hob.elim
  · rename_i cs off
    obtain ⟨b, o, rfl, hc⟩ := iptr_cells ha
    obtain ⟨u, h1, h2⟩ := partOf_load (P := P) hp hob hc
    refine ⟨u, ?_, h2⟩
    simpa [Instr.loadAt, Instr.sureAddr] using h1
  · cases hp; exact hob.elim

end
end Go.Proofs.Ytjmfaebimgnblaa
