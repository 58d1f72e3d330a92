/-
  A region that draws its order, by facts on its operations' values: one obligation an operation, whatever order the tape picks. Generic: over any program.
-/
import Derived.WalkKit
namespace Go.Proofs.Ytjmfaebimgnblaa
open Go.RowKit
set_option linter.unusedVariables false
set_option linter.unusedSimpArgs false

/-- A fact on a value and a world that stands as long as the blocks of the footprint S lie as they lay. -/
def Stable (F : (Nat → Prop) → Value → World → Prop) : Prop :=
  ∀ (S S' : Nat → Prop) (v : Value) (w w' : World), F S v w → (∀ b, S b → b < w.heap.size → S' b) →
    (∀ b, S b → b < w.heap.size → w'.heap[b]? = w.heap[b]?) → w.heap.size ≤ w'.heap.size → F S' v w'

/-- What is asked of an operation's run: it yields a value, in a world, of which R holds. -/
def Upd (P : Program) (R : Value → World → Prop) : Result Next → Prop
  | .ok (.value v) w' => R v w'
  | .ok .skip w' => R undef w'
  | .ok (.enter f args) w' => Calls P f args w' (fun e w'' => ∃ v, e = .returned v ∧ R v w'')
  | _ => False

theorem Upd.upon {P : Program} {R : Value → World → Prop} {o : Oper} {a : Act} {next : Act → World → Prop} {Q : Exit → Act → World → Prop} {r : Result Next}
    (h : Upd P R r) (hn : ∀ v w', R v w' → next (a.put o.dst v) w') : o.upon P a next Q r := by
  cases r with
  | ok n w' =>
    cases n <;> simp only [Upd] at h
    case value v => exact hn _ _ h
    case skip => exact hn _ _ h
    case enter f args =>
      refine h.mono ?_
      rintro e w'' ⟨v, rfl, hr⟩
      exact hn _ _ hr
  | halt x w' => simp only [Upd] at h

theorem Upd.ok {P : Program} {R : Value → World → Prop} {v : Value} {w' : World} (h : R v w') : Upd P R (.ok (.value v) w') := h
theorem Upd.enter {P : Program} {R : Value → World → Prop} {f : FuncId} {args : Array Value} {w' : World} (h : Calls P f args w' (fun e w'' => ∃ v, e = .returned v ∧ R v w'')) : Upd P R (.ok (.enter f args) w') := h
theorem Upd.of {P : Program} {R : Value → World → Prop} {r : Result Next} {v : Value} {w' : World} (h : r = .ok (.value v) w') (hR : R v w') : Upd P R r := by
  rw [h]; exact hR
theorem Upd.hide {P : Program} {R : Value → World → Prop} {r : Result Next} (h : ∀ R1 : Value → World → Prop, (∀ v w', R v w' → R1 v w') → Upd P R1 r) : Upd P R r := h R fun _ _ h => h
attribute [irreducible] Upd

/-- How an operation of a region is met. -/
inductive RKind where
  /-- it yields a value; old blocks stay as they are -/
  | grow
  /-- its guard says no -/
  | skip
  /-- a new block for a variable: 'Op.alloc T', T's zero being these cells -/
  | alloc (T : TypeId) (zero : Array Value)
  /-- the store that fills the block of operation j -/
  | fill (j : Nat)

def RKind.isAlloc : RKind → Bool | .alloc _ _ => true | _ => false

/-- Whose value the fact of operation i speaks of. -/
def RKind.who : RKind → Nat → Nat | .fill j, _ => j | _, i => i

/-- The kind of each operation, and the fact on its value. -/
structure RSpec where
  K : Nat → RKind
  F : Nat → (Nat → Prop) → Value → World → Prop
  /-- which operation's fact is known of each temporary that operation i looks at; 'none': it holds what it held ahead of the region -/
  ins : Nat → List (Tmp × Option Nat)

section
variable (P : Program) (ops : Array Oper) (sp : RSpec) (base : Act) (w0 : World)

def rEdge (i j : Nat) : Bool := match ops[i]? with | some o => o.after.any (fun e => Region.binds .any e && e.on == j) | none => false
def rReach : Nat → Nat → Nat → Bool
  | 0, i, j => rEdge ops i j
  | f + 1, i, j => rEdge ops i j || (match ops[i]? with | some o => o.after.any (fun e => Region.binds .any e && rReach f e.on j) | none => false)
abbrev rBefore (i j : Nat) : Bool := rReach ops 5 i j
def rDst (i : Nat) : Option Tmp := (ops[i]?).bind (·.dst)

/-- every other operation that writes slot t comes behind i, or ahead of j -/
def rOthers (i : Nat) (j : Option Nat) (t : Tmp) : Bool :=
  (List.range ops.size).all fun k => rDst ops k != some t || k == i || some k == j || rBefore ops k i || (match j with | some j => rBefore ops j k | none => false)

def rIn (i : Nat) (p : Tmp × Option Nat) : Bool :=
  match p.2 with
  | none => rOthers ops i none p.1
  | some k => match sp.K k with
    | .fill j => rDst ops j == some p.1 && rBefore ops i j && rBefore ops i k && rOthers ops i (some j) p.1
    | .alloc _ _ => false
    | _ => rDst ops k == some p.1 && rBefore ops i k && rOthers ops i (some k) p.1

def rOp (i : Nat) : Bool :=
  (match ops[i]? with
   | some o => o.after.all (fun e => !Region.binds .any e || decide (e.on < i)) &&
      (match o.dst with
       | some t => decide (t < base.tmps.size) && (List.range i).all (fun k => rDst ops k != some t || rBefore ops i k)
       | none => true) &&
      (match o.guard with
       | some (g, _) => rBefore ops i g && (match rDst ops g with | some t => rOthers ops i (some g) t | none => false) && (match sp.K g with | .alloc _ _ => false | .fill _ => false | _ => true)
       | none => true)
   | none => true) &&
  (sp.ins i).all (rIn ops sp i) &&
  (match sp.K i with
   | .fill j => rBefore ops i j && (match rDst ops j with | some t => rOthers ops i (some j) t | none => false) && (sp.K j).isAlloc && (rDst ops i == none) &&
      (List.range ops.size).all (fun k => k == i || (match sp.K k with | .fill j' => j' != j | _ => true))
   | .skip => true
   | _ => true)

/-- The region and its table fit. -/
def rOk : Bool := (List.range ops.size).all (rOp ops sp base)

def InsFacts (ρ : Operand → Value) (S : Nat → Prop) (w : World) : List (Tmp × Option Nat) → Prop
  | [] => True
  | (t, none) :: r => ρ (.tmp t) = base.tmps.getD t undef ∧ InsFacts ρ S w r
  | (t, some k) :: r => sp.F k S (ρ (.tmp t)) w ∧ InsFacts ρ S w r

/-- Only block b has turned. -/
structure OnlyBlock (b : Nat) (w w' : World) : Prop where
  os : w'.os = w.os
  tape : w'.tape = w.tape
  output : w'.output = w.output
  size : w'.heap.size = w.heap.size
  block : ∀ k, k ≠ b → w'.heap[k]? = w.heap[k]?

def GuardYes (o : Oper) : Prop := ∀ g want, o.guard = some (g, want) → ∀ S v w, sp.F g S v w → v = .bool want
def GuardNo (o : Oper) : Prop := ∃ g want, o.guard = some (g, want) ∧ ∀ S v w, sp.F g S v w → v = .bool (!want) ∨ v = undef

structure Consts (ρ : Operand → Value) : Prop where
  const : ∀ v, ρ (.const v) = v
  func : ∀ f, ρ (.func f) = .func (.func f) #[] #[]
  global : ∀ g, ρ (.global g) = .pointer (some ⟨g, 0, none⟩)

def OpOk (i : Nat) (o : Oper) : Prop :=
  match sp.K i with
  | .grow => GuardYes sp o ∧ ∀ ρ S w, Consts ρ → Below w0.heap.size w0 w → (∀ b, b < w0.heap.size → S b) → InsFacts sp base ρ S w (sp.ins i) →
      Upd P (fun v w' => Below w.heap.size w w' ∧ sp.F i (fun b => S b ∨ w.heap.size ≤ b) v w') ((execOp ρ o).run P w)
  | .skip => GuardNo sp o ∧ ∀ S w, sp.F i S undef w
  | .alloc T z => GuardYes sp o ∧ ∀ ρ w, (execOp ρ o).run P w = .ok (.value (.pointer (some ⟨w.heap.size, 0, none⟩))) (w.alloc (.cells z T))
  | .fill j => GuardYes sp o ∧ ∀ T z t ρ S w b, sp.K j = .alloc T z → rDst ops j = some t → Consts ρ → Below w0.heap.size w0 w → (∀ b, b < w0.heap.size → S b) → InsFacts sp base ρ S w (sp.ins i) →
      ρ (.tmp t) = .pointer (some ⟨b, 0, none⟩) → w.heap[b]? = some (.cells z T) → ¬ S b →
      ∃ w', (execOp ρ o).run P w = .ok .skip w' ∧ OnlyBlock b w w' ∧ sp.F i (fun x => S x ∨ x = b) (.pointer (some ⟨b, 0, none⟩)) w'

/-- The frame's part of the invariant. -/
structure RFrame (listed : Array Bool) (env : Nat → Value) (a : Act) : Prop where
  lsize : listed.size = ops.size
  closed : ∀ i o, listed.getD i false = true → ops[i]? = some o → ∀ e ∈ o.after, Region.binds .any e = true → listed.getD e.on false = true
  defers : a.defers = base.defers
  tsize : a.tmps.size = base.tmps.size
  slots : ∀ t, (∀ k, listed.getD k false = true → rDst ops k ≠ some t) → a.tmps[t]? = base.tmps[t]?
  vals : ∀ j t, listed.getD j false = true → rDst ops j = some t → (∀ k, listed.getD k false = true → rDst ops k = some t → k ≠ j → rBefore ops j k = true) → a.tmps[t]? = some (env j)

/-- The memory's part of the invariant. -/
structure RMem (listed : Array Bool) (env : Nat → Value) (S : Nat → Prop) (w : World) : Prop where
  below : Below w0.heap.size w0 w
  sbase : ∀ b, b < w0.heap.size → S b
  slt : ∀ b, S b → b < w.heap.size
  facts : ∀ j, listed.getD j false = true → (sp.K j).isAlloc = false → sp.F j S (env ((sp.K j).who j)) w
  priv : ∀ j T z, listed.getD j false = true → sp.K j = .alloc T z → (∀ k, listed.getD k false = true → sp.K k ≠ .fill j) →
    ∃ b, env j = .pointer (some ⟨b, 0, none⟩) ∧ ¬ S b ∧ w.heap[b]? = some (.cells z T)
  ptrs : ∀ j T z, listed.getD j false = true → sp.K j = .alloc T z → ∃ b, env j = .pointer (some ⟨b, 0, none⟩) ∧ w0.heap.size ≤ b ∧ b < w.heap.size
  apart : ∀ j j' T z T' z' b, listed.getD j false = true → listed.getD j' false = true → sp.K j = .alloc T z → sp.K j' = .alloc T' z' → env j = .pointer (some ⟨b, 0, none⟩) → env j' = .pointer (some ⟨b, 0, none⟩) → j = j'

end
section
variable {P : Program} {ops : Array Oper} {sp : RSpec} {base : Act} {w0 : World}

theorem getD_set (l : Array Bool) (i k : Nat) (hi : i < l.size) : (l.setIfInBounds i true).getD k false = (if k = i then true else l.getD k false) := by
  by_cases h : k = i
  · subst h; simp [hi]
  · rw [if_neg h]
    simp only [Array.getD_eq_getD_getElem?]
    rw [Array.getElem?_setIfInBounds_ne (fun e => h e.symm)]

theorem rEdge_listed {listed : Array Bool} {i j : Nat} (hc : ∀ o, ops[i]? = some o → ∀ e ∈ o.after, Region.binds .any e = true → listed.getD e.on false = true)
    (h : rEdge ops i j = true) : listed.getD j false = true := by
  unfold rEdge at h
  split at h
  · rename_i o ho
    simp only [Array.any_eq_true', Bool.and_eq_true, beq_iff_eq] at h
    obtain ⟨e, he, hb, rfl⟩ := h
    exact hc o ho e he hb
  · cases h

theorem rReach_listed {listed : Array Bool} (hcl : ∀ i o, listed.getD i false = true → ops[i]? = some o → ∀ e ∈ o.after, Region.binds .any e = true → listed.getD e.on false = true) :
    ∀ (f i j : Nat), (∀ o, ops[i]? = some o → ∀ e ∈ o.after, Region.binds .any e = true → listed.getD e.on false = true) → rReach ops f i j = true → listed.getD j false = true := by
  intro f
  induction f with
  | zero => intro i j hc h; exact rEdge_listed hc h
  | succ f ih =>
    intro i j hc h
    simp only [rReach, Bool.or_eq_true] at h
    rcases h with h | h
    · exact rEdge_listed hc h
    · split at h
      · rename_i o ho
        simp only [Array.any_eq_true', Bool.and_eq_true] at h
        obtain ⟨e, he, hb, h⟩ := h
        exact ih e.on j (fun o' ho' => hcl e.on o' (hc o ho e he hb) ho') h
      · cases h

theorem rReach_lt (htop : ∀ i o, ops[i]? = some o → ∀ e ∈ o.after, Region.binds .any e = true → e.on < i) : ∀ (f i j : Nat), rReach ops f i j = true → j < i := by
  have he : ∀ i j, rEdge ops i j = true → j < i := by
    intro i j h
    unfold rEdge at h
    split at h
    · rename_i o ho
      simp only [Array.any_eq_true', Bool.and_eq_true, beq_iff_eq] at h
      obtain ⟨e, he, hb, rfl⟩ := h
      exact htop i o ho e he hb
    · cases h
  intro f
  induction f with
  | zero => intro i j h; exact he i j h
  | succ f ih =>
    intro i j h
    simp only [rReach, Bool.or_eq_true] at h
    rcases h with h | h
    · exact he i j h
    · split at h
      · rename_i o ho
        simp only [Array.any_eq_true', Bool.and_eq_true] at h
        obtain ⟨e, hee, hb, h⟩ := h
        have := ih e.on j h
        have := htop i o ho e hee hb
        omega
      · cases h


/-- What 'rOk' says, in words. -/
structure ROk (ops : Array Oper) (sp : RSpec) (base : Act) : Prop where
  top : ∀ i o, ops[i]? = some o → ∀ e ∈ o.after, Region.binds .any e = true → e.on < i
  writes : ∀ i t, rDst ops i = some t → t < base.tmps.size ∧ ∀ k, k < i → rDst ops k = some t → rBefore ops i k = true
  guard : ∀ i o g want, ops[i]? = some o → o.guard = some (g, want) → rBefore ops i g = true ∧ (sp.K g).isAlloc = false ∧ (sp.K g).who g = g ∧ ∃ t, rDst ops g = some t ∧ rOthers ops i (some g) t = true
  ins : ∀ i, i < ops.size → ∀ p ∈ sp.ins i, rIn ops sp i p = true
  fill : ∀ i j, i < ops.size → sp.K i = .fill j → rBefore ops i j = true ∧ (∃ t, rDst ops j = some t ∧ rOthers ops i (some j) t = true) ∧ (sp.K j).isAlloc = true ∧ rDst ops i = none ∧ ∀ k, k < ops.size → sp.K k = .fill j → k = i

theorem rOk_spec (h : rOk ops sp base = true) : ROk ops sp base := by
  unfold rOk at h
  simp only [List.all_eq_true, List.mem_range] at h
  have lt : ∀ i o, ops[i]? = some o → i < ops.size := fun i o ho => (Array.getElem?_eq_some_iff.1 ho).1
  refine ⟨?_, ?_, ?_, ?_, ?_⟩
  · intro i o ho e he hb
    have := h i (lt i o ho)
    unfold rOp at this
    simp only [ho, Bool.and_eq_true, Array.all_eq_true', Bool.or_eq_true, Bool.not_eq_true', decide_eq_true_eq] at this
    have h2 := this.1.1.1.1 e he
    rcases h2 with h2 | h2
    · rw [hb] at h2; cases h2
    · exact h2
  · intro i t ht
    unfold rDst at ht
    cases ho : ops[i]? with
    | none => rw [ho] at ht; cases ht
    | some o =>
      rw [ho] at ht
      simp only [Option.bind_some] at ht
      have := h i (lt i o ho)
      unfold rOp at this
      simp only [ho, ht, Bool.and_eq_true, decide_eq_true_eq, List.all_eq_true, List.mem_range, Bool.or_eq_true, bne_iff_ne] at this
      refine ⟨this.1.1.1.2.1, fun k hk hkt => ?_⟩
      have h2 := this.1.1.1.2.2 k hk
      exact h2.resolve_left (fun hne => hne hkt)
  · intro i o g want ho hg
    have := h i (lt i o ho)
    unfold rOp at this
    simp only [ho, hg, Bool.and_eq_true] at this
    obtain ⟨⟨h1, h2⟩, h3⟩ := this.1.1.2
    refine ⟨h1, ?_, ?_, ?_⟩
    · cases hk : sp.K g <;> simp [hk, RKind.isAlloc] at h3 ⊢
    · cases hk : sp.K g <;> simp [hk, RKind.who] at h3 ⊢
    · cases ht : rDst ops g with
      | none => simp [ht] at h2
      | some t => exact ⟨t, rfl, by simpa [ht] using h2⟩
  · intro i hi p hp
    have := h i hi
    unfold rOp at this
    simp only [Bool.and_eq_true, List.all_eq_true] at this
    exact this.1.2 p hp
  · intro i j hi hk
    have := h i hi
    unfold rOp at this
    simp only [hk, Bool.and_eq_true, List.all_eq_true, List.mem_range, Bool.or_eq_true, beq_iff_eq] at this
    obtain ⟨⟨⟨⟨h1, h2⟩, h3⟩, h4⟩, h5⟩ := this.2
    refine ⟨h1, ?_, h3, h4, fun k hk' hkk => ?_⟩
    · cases ht : rDst ops j with
      | none => simp [ht] at h2
      | some t => exact ⟨t, rfl, by simpa [ht] using h2⟩
    · rcases h5 k hk' with h6 | h6
      · exact h6
      · rw [hkk] at h6; simp at h6

theorem put_other (a : Act) (d : Option Tmp) (v : Value) (t : Tmp) (h : d ≠ some t) : (a.put d v).tmps[t]? = a.tmps[t]? := by
  cases d with
  | none => rfl
  | some d => exact Array.getElem?_setIfInBounds_ne (fun e => h (by rw [e]))

theorem put_same (a : Act) (v : Value) (t : Tmp) (h : t < a.tmps.size) : (a.put (some t) v).tmps[t]? = some v := by
  simp [Act.put, h]

theorem put_size (a : Act) (d : Option Tmp) (v : Value) : (a.put d v).tmps.size = a.tmps.size := by
  cases d <;> simp [Act.put]

theorem put_defers' (a : Act) (d : Option Tmp) (v : Value) : (a.put d v).defers = a.defers := by
  cases d <;> rfl

theorem RFrame.step (hok : ROk ops sp base) {listed : Array Bool} {env : Nat → Value} {a : Act} (hF : RFrame ops base listed env a) {i : Nat} {o : Oper} (hi : ops[i]? = some o)
    (hnl : listed.getD i false = false) (hr : ∀ e ∈ o.after, Region.binds .any e = true → listed.getD e.on false = true) (v : Value) :
    RFrame ops base (listed.setIfInBounds i true) (fun k => if k = i then v else env k) (a.put o.dst v) := by
  have hlt : i < listed.size := by rw [hF.lsize]; exact (Array.getElem?_eq_some_iff.1 hi).1
  have hd : rDst ops i = o.dst := by simp [rDst, hi]
  refine ⟨by simpa using hF.lsize, ?_, by rw [put_defers']; exact hF.defers, by rw [put_size]; exact hF.tsize, ?_, ?_⟩
  · intro k ok hk hok' e he hb
    rw [getD_set _ _ _ hlt] at hk ⊢
    split
    · rfl
    · by_cases hki : k = i
      · subst hki
        rw [hi] at hok'
        cases hok'
        exact hr e he hb
      · rw [if_neg hki] at hk
        exact hF.closed k ok hk hok' e he hb
  · intro t ht
    have h1 : o.dst ≠ some t := by
      have := ht i (by rw [getD_set _ _ _ hlt, if_pos rfl])
      rwa [hd] at this
    rw [put_other _ _ _ _ h1]
    refine hF.slots t (fun k hk => ht k ?_)
    rw [getD_set _ _ _ hlt]
    split
    · rfl
    · exact hk
  · intro j t hj hjt hw
    by_cases hji : j = i
    · subst hji
      rw [hd] at hjt
      simp only [if_true, hjt]
      refine put_same _ _ _ ?_
      rw [hF.tsize]
      exact (hok.writes j t (by rw [hd]; exact hjt)).1
    · rw [getD_set _ _ _ hlt, if_neg hji] at hj
      have h1 : o.dst ≠ some t := by
        intro h1
        have hb := hw i (by rw [getD_set _ _ _ hlt, if_pos rfl]) (by rw [hd]; exact h1) (fun e => hji e.symm)
        have := rReach_listed hF.closed 5 j i (fun oj hoj => hF.closed j oj hj hoj) hb
        rw [hnl] at this
        cases this
      rw [put_other _ _ _ _ h1]
      simp only [if_neg hji]
      refine hF.vals j t hj hjt (fun k hk hkt hkj => hw k ?_ hkt hkj)
      rw [getD_set _ _ _ hlt]
      split
      · rfl
      · exact hk

/-- What a temporary that operation i looks at holds when i comes up. -/
theorem RFrame.look {listed : Array Bool} {env : Nat → Value} {a : Act} (hF : RFrame ops base listed env a) {i : Nat} {o : Oper} (hi : ops[i]? = some o)
    (hnl : listed.getD i false = false) (hr : ∀ e ∈ o.after, Region.binds .any e = true → listed.getD e.on false = true) {j : Nat} {t : Tmp} (hb : rBefore ops i j = true) (hjt : rDst ops j = some t)
    (ho : rOthers ops i (some j) t = true) : listed.getD j false = true ∧ a.tmps[t]? = some (env j) := by
  have hrl : ∀ k, rBefore ops i k = true → listed.getD k false = true := fun k hk => rReach_listed hF.closed 5 i k (fun o' ho' => by rw [hi] at ho'; cases ho'; exact hr) hk
  have hlj := hrl j hb
  refine ⟨hlj, hF.vals j t hlj hjt (fun k hk hkt hkj => ?_)⟩
  unfold rOthers at ho
  simp only [List.all_eq_true, List.mem_range, Bool.or_eq_true, bne_iff_ne, beq_iff_eq] at ho
  have hklt : k < ops.size := by
    unfold rDst at hkt
    cases hk' : ops[k]? with
    | none => rw [hk'] at hkt; cases hkt
    | some x => exact (Array.getElem?_eq_some_iff.1 hk').1
  rcases ho k hklt with (((h | h) | h) | h) | h
  · exact absurd hkt h
  · rw [h, hnl] at hk; cases hk
  · injection h with h; exact absurd h hkj
  · have := rReach_listed hF.closed 5 k i (fun o' ho' => hF.closed k o' hk ho') h
    rw [hnl] at this; cases this
  · exact h

theorem RFrame.lookBase {listed : Array Bool} {env : Nat → Value} {a : Act} (hF : RFrame ops base listed env a) {i : Nat}
    (hnl : listed.getD i false = false) {t : Tmp} (ho : rOthers ops i none t = true) : a.tmps[t]? = base.tmps[t]? := by
  refine hF.slots t (fun k hk hkt => ?_)
  unfold rOthers at ho
  simp only [List.all_eq_true, List.mem_range, Bool.or_eq_true, bne_iff_ne, beq_iff_eq] at ho
  have hklt : k < ops.size := by
    unfold rDst at hkt
    cases hk' : ops[k]? with
    | none => rw [hk'] at hkt; cases hkt
    | some x => exact (Array.getElem?_eq_some_iff.1 hk').1
  rcases ho k hklt with (((h | h) | h) | h) | h
  · exact absurd hkt h
  · rw [h, hnl] at hk; cases hk
  · cases h
  · have := rReach_listed hF.closed 5 k i (fun o' ho' => hF.closed k o' hk ho') h
    rw [hnl] at this; cases this
  · cases h

theorem insFacts_of {listed : Array Bool} {env : Nat → Value} {S : Nat → Prop} {a : Act} {w : World} (hF : RFrame ops base listed env a) (hM : RMem sp w0 listed env S w) {i : Nat} {o : Oper} (hi : ops[i]? = some o)
    (hnl : listed.getD i false = false) (hr : ∀ e ∈ o.after, Region.binds .any e = true → listed.getD e.on false = true) :
    ∀ l : List (Tmp × Option Nat), (∀ p ∈ l, rIn ops sp i p = true) → InsFacts sp base a.eval S w l := by
  intro l
  induction l with
  | nil => intro _; trivial
  | cons p l ih =>
    intro h
    have hl := ih (fun q hq => h q (List.mem_cons_of_mem _ hq))
    have hp := h p (List.mem_cons_self ..)
    obtain ⟨t, k⟩ := p
    have hev : ∀ x, a.tmps[t]? = some x → a.eval (.tmp t) = x := fun x hx => by simp [Act.eval, hx]
    have hrl : ∀ k, rBefore ops i k = true → listed.getD k false = true := fun k hk => rReach_listed hF.closed 5 i k (fun o' ho' => by rw [hi] at ho'; cases ho'; exact hr) hk
    cases k with
    | none =>
      refine ⟨?_, hl⟩
      simp only [rIn] at hp
      simp [Act.eval, hF.lookBase hnl hp]
    | some k =>
      refine ⟨?_, hl⟩
      simp only [rIn] at hp
      cases hk : sp.K k with
      | fill j =>
        simp only [hk, Bool.and_eq_true, beq_iff_eq] at hp
        obtain ⟨⟨⟨h1, h2⟩, h3⟩, h4⟩ := hp
        obtain ⟨hlj, hv⟩ := hF.look hi hnl hr h2 h1 h4
        rw [hev _ hv]
        have := hM.facts k (hrl k h3) (by rw [hk]; rfl)
        rwa [hk] at this
      | alloc T z => simp [hk] at hp
      | grow =>
        simp only [hk, Bool.and_eq_true, beq_iff_eq] at hp
        obtain ⟨⟨h1, h3⟩, h4⟩ := hp
        obtain ⟨hlj, hv⟩ := hF.look hi hnl hr h3 h1 h4
        rw [hev _ hv]
        have := hM.facts k hlj (by rw [hk]; rfl)
        rwa [hk] at this
      | skip =>
        simp only [hk, Bool.and_eq_true, beq_iff_eq] at hp
        obtain ⟨⟨h1, h3⟩, h4⟩ := hp
        obtain ⟨hlj, hv⟩ := hF.look hi hnl hr h3 h1 h4
        rw [hev _ hv]
        have := hM.facts k hlj (by rw [hk]; rfl)
        rwa [hk] at this


theorem who_ne (hok : ROk ops sp base) {listed : Array Bool} {env : Nat → Value} {a : Act} (hF : RFrame ops base listed env a) {i k : Nat} (hnl : listed.getD i false = false) (hk : listed.getD k false = true) : (sp.K k).who k ≠ i := by
  have hki : k ≠ i := by rintro rfl; rw [hnl] at hk; cases hk
  cases hkk : sp.K k with
  | fill j =>
    simp only [RKind.who]
    rintro rfl
    have hlt : k < ops.size := by
      rw [← hF.lsize]
      refine Decidable.byContradiction fun hn => ?_
      simp [Array.getD, hn] at hk
    have hb := (hok.fill k j hlt hkk).1
    have := rReach_listed hF.closed 5 k j (fun o' ho' => hF.closed k o' hk ho') hb
    rw [hnl] at this; cases this
  | grow => exact hki
  | skip => exact hki
  | alloc T z => exact hki

theorem RMem.grow (hok : ROk ops sp base) (hst : ∀ j, Stable (sp.F j)) {listed : Array Bool} {env : Nat → Value} {S : Nat → Prop} {a : Act} {w w' : World} (hF : RFrame ops base listed env a) (hM : RMem sp w0 listed env S w) {i : Nat}
    (hlt : i < listed.size) (hnl : listed.getD i false = false) (hk : sp.K i = .grow ∨ sp.K i = .skip) {v : Value} (hb : Below w.heap.size w w') (hf : sp.F i (fun b => S b ∨ w.heap.size ≤ b) v w') :
    RMem sp w0 (listed.setIfInBounds i true) (fun k => if k = i then v else env k) (fun b => S b ∨ (w.heap.size ≤ b ∧ b < w'.heap.size)) w' := by
  have hwi : (sp.K i).who i = i := by rcases hk with hk | hk <;> rw [hk] <;> rfl
  have hna : ∀ T z, sp.K i ≠ .alloc T z := by rcases hk with hk | hk <;> rw [hk] <;> simp
  have hN := hM.below.size
  refine ⟨hM.below.trans (hb.mono hN), fun b h => .inl (hM.sbase b h), ?_, ?_, ?_, ?_, ?_⟩
  · rintro b (h | h)
    · exact Nat.lt_of_lt_of_le (hM.slt b h) hb.size
    · exact h.2
  · intro j hj hal
    by_cases hji : j = i
    · subst hji
      rw [hwi]
      simp only [if_true]
      exact hst j _ _ _ _ _ hf (fun b h hl => h.imp id (fun h => ⟨h, hl⟩)) (fun _ _ _ => rfl) (Nat.le_refl _)
    · rw [getD_set _ _ _ hlt, if_neg hji] at hj
      rw [if_neg (who_ne hok hF hnl hj)]
      exact hst j _ _ _ _ _ (hM.facts j hj hal) (fun b h _ => .inl h) (fun b _ h => hb.block b h) hb.size
  · intro j T z hj hk' hnf
    by_cases hji : j = i
    · subst hji; exact absurd hk' (hna _ _)
    · rw [getD_set _ _ _ hlt, if_neg hji] at hj
      obtain ⟨b, h1, h2, h3⟩ := hM.priv j T z hj hk' (fun k hk => hnf k (by rw [getD_set _ _ _ hlt]; split <;> first | rfl | exact hk))
      have hbl : b < w.heap.size := (Array.getElem?_eq_some_iff.1 h3).1
      refine ⟨b, by rw [if_neg hji]; exact h1, ?_, by rw [hb.block b hbl]; exact h3⟩
      rintro (h | h)
      · exact h2 h
      · omega
  · intro j T z hj hk'
    by_cases hji : j = i
    · subst hji; exact absurd hk' (hna _ _)
    · rw [getD_set _ _ _ hlt, if_neg hji] at hj
      obtain ⟨b, h1, h2, h3⟩ := hM.ptrs j T z hj hk'
      exact ⟨b, by rw [if_neg hji]; exact h1, h2, Nat.lt_of_lt_of_le h3 hb.size⟩
  · intro j j' T z T' z' b hj hj' hk1 hk2 h1 h2
    have hji : j ≠ i := by rintro rfl; exact hna _ _ hk1
    have hji' : j' ≠ i := by rintro rfl; exact hna _ _ hk2
    rw [getD_set _ _ _ hlt, if_neg hji] at hj
    rw [getD_set _ _ _ hlt, if_neg hji'] at hj'
    rw [if_neg hji] at h1
    rw [if_neg hji'] at h2
    exact hM.apart j j' T z T' z' b hj hj' hk1 hk2 h1 h2

theorem RMem.alloc (hok : ROk ops sp base) (hst : ∀ j, Stable (sp.F j)) {listed : Array Bool} {env : Nat → Value} {S : Nat → Prop} {a : Act} {w : World} (hF : RFrame ops base listed env a) (hM : RMem sp w0 listed env S w) {i : Nat}
    (hlt : i < listed.size) (hnl : listed.getD i false = false) {T : TypeId} {z : Array Value} (hk : sp.K i = .alloc T z) :
    RMem sp w0 (listed.setIfInBounds i true) (fun k => if k = i then .pointer (some ⟨w.heap.size, 0, none⟩) else env k) S (w.alloc (.cells z T)) := by
  have hN := hM.below.size
  have hsz : (w.alloc (.cells z T)).heap.size = w.heap.size + 1 := by simp
  refine ⟨hM.below.alloc hN _, hM.sbase, fun b h => by have := hM.slt b h; omega, ?_, ?_, ?_, ?_⟩
  · intro j hj hal
    by_cases hji : j = i
    · subst hji; rw [hk] at hal; cases hal
    · rw [getD_set _ _ _ hlt, if_neg hji] at hj
      rw [if_neg (who_ne hok hF hnl hj)]
      exact hst j _ _ _ _ _ (hM.facts j hj hal) (fun b h _ => h) (fun b _ h => Below.heap_alloc w _ b h) (by omega)
  · intro j T' z' hj hk' hnf
    by_cases hji : j = i
    · subst hji
      rw [hk] at hk'
      cases hk'
      exact ⟨w.heap.size, by simp, fun h => by have := hM.slt _ h; omega, heap_alloc_new w _⟩
    · rw [getD_set _ _ _ hlt, if_neg hji] at hj
      obtain ⟨b, h1, h2, h3⟩ := hM.priv j T' z' hj hk' (fun k hk => hnf k (by rw [getD_set _ _ _ hlt]; split <;> first | rfl | exact hk))
      have hbl : b < w.heap.size := (Array.getElem?_eq_some_iff.1 h3).1
      exact ⟨b, by rw [if_neg hji]; exact h1, h2, by rw [Below.heap_alloc w _ b hbl]; exact h3⟩
  · intro j T' z' hj hk'
    by_cases hji : j = i
    · subst hji
      exact ⟨w.heap.size, by simp, hN, by omega⟩
    · rw [getD_set _ _ _ hlt, if_neg hji] at hj
      obtain ⟨b, h1, h2, h3⟩ := hM.ptrs j T' z' hj hk'
      exact ⟨b, by rw [if_neg hji]; exact h1, h2, by omega⟩
  · intro j j' T1 z1 T' z' b hj hj' hk1 hk2 h1 h2
    have old : ∀ k T2 z2, k ≠ i → (listed.setIfInBounds i true).getD k false = true → sp.K k = .alloc T2 z2 → env k = .pointer (some ⟨b, 0, none⟩) → b < w.heap.size := by
      intro k T2 z2 hki hkl hkk he
      rw [getD_set _ _ _ hlt, if_neg hki] at hkl
      obtain ⟨b', h1, h2, h3⟩ := hM.ptrs k T2 z2 hkl hkk
      rw [h1] at he
      simp at he
      omega
    by_cases hji : j = i
    · by_cases hji' : j' = i
      · rw [hji, hji']
      · rw [if_pos hji] at h1
        rw [if_neg hji'] at h2
        have := old j' _ _ hji' hj' hk2 h2
        simp only [Value.pointer.injEq, Option.some.injEq, Addr.mk.injEq] at h1
        omega
    · by_cases hji' : j' = i
      · rw [if_neg hji] at h1
        rw [if_pos hji'] at h2
        have := old j _ _ hji hj hk1 h1
        simp only [Value.pointer.injEq, Option.some.injEq, Addr.mk.injEq] at h2
        omega
      · rw [getD_set _ _ _ hlt, if_neg hji] at hj
        rw [getD_set _ _ _ hlt, if_neg hji'] at hj'
        rw [if_neg hji] at h1
        rw [if_neg hji'] at h2
        exact hM.apart j j' _ _ _ _ b hj hj' hk1 hk2 h1 h2

theorem RMem.fill (hok : ROk ops sp base) (hst : ∀ j, Stable (sp.F j)) {listed : Array Bool} {env : Nat → Value} {S : Nat → Prop} {a : Act} {w w' : World} (hF : RFrame ops base listed env a) (hM : RMem sp w0 listed env S w) {i j0 : Nat}
    (hlt : i < listed.size) (hlo : i < ops.size) (hnl : listed.getD i false = false) (hk : sp.K i = .fill j0) {b0 : Nat} (hj0 : listed.getD j0 false = true) {T0 : TypeId} {z0 : Array Value} (hk0 : sp.K j0 = .alloc T0 z0)
    (he : env j0 = .pointer (some ⟨b0, 0, none⟩)) (hns : ¬ S b0) (hb : OnlyBlock b0 w w')
    (hf : sp.F i (fun x => S x ∨ x = b0) (.pointer (some ⟨b0, 0, none⟩)) w') (v : Value) :
    RMem sp w0 (listed.setIfInBounds i true) (fun k => if k = i then v else env k) (fun x => S x ∨ x = b0) w' := by
  have hb0 : w0.heap.size ≤ b0 ∧ b0 < w.heap.size := by
    obtain ⟨b, h1, h2, h3⟩ := hM.ptrs j0 T0 z0 hj0 hk0
    rw [he] at h1
    simp at h1
    omega
  have hs : ∀ b, S b → w'.heap[b]? = w.heap[b]? := fun b h => hb.block b (fun e => hns (e ▸ h))
  refine ⟨hM.below.trans ⟨hb.os, hb.tape, hb.output, by rw [hb.size]; exact Nat.le_refl _, fun k hk => hb.block k (by omega)⟩, fun b h => .inl (hM.sbase b h), ?_, ?_, ?_, ?_, ?_⟩
  · rintro b (h | h)
    · rw [hb.size]; exact hM.slt b h
    · rw [hb.size, h]; exact hb0.2
  · intro j hj hal
    by_cases hji : j = i
    · subst hji
      have hj0i : j0 ≠ j := by rintro rfl; rw [hnl] at hj0; cases hj0
      rw [hk]
      show sp.F j _ (if j0 = j then v else env j0) w'
      rw [if_neg hj0i, he]
      exact hf
    · rw [getD_set _ _ _ hlt, if_neg hji] at hj
      rw [if_neg (who_ne hok hF hnl hj)]
      exact hst j _ _ _ _ _ (hM.facts j hj hal) (fun b h _ => .inl h) (fun b h _ => hs b h) (by rw [hb.size]; exact Nat.le_refl _)
  · intro j T z hj hk' hnf
    have hji : j ≠ i := by rintro rfl; rw [hk] at hk'; cases hk'
    rw [getD_set _ _ _ hlt, if_neg hji] at hj
    have hjj : j ≠ j0 := by
      rintro rfl
      exact hnf i (by rw [getD_set _ _ _ hlt, if_pos rfl]) hk
    obtain ⟨b, h1, h2, h3⟩ := hM.priv j T z hj hk' (fun k hk => hnf k (by rw [getD_set _ _ _ hlt]; split <;> first | rfl | exact hk))
    have hbb : b ≠ b0 := by
      rintro rfl
      exact hjj (hM.apart j j0 _ _ _ _ b hj hj0 hk' hk0 h1 he)
    refine ⟨b, by rw [if_neg hji]; exact h1, ?_, by rw [hb.block b hbb]; exact h3⟩
    rintro (h | h)
    · exact h2 h
    · exact hbb h
  · intro j T z hj hk'
    have hji : j ≠ i := by rintro rfl; rw [hk] at hk'; cases hk'
    rw [getD_set _ _ _ hlt, if_neg hji] at hj
    obtain ⟨b, h1, h2, h3⟩ := hM.ptrs j T z hj hk'
    exact ⟨b, by rw [if_neg hji]; exact h1, h2, by rw [hb.size]; exact h3⟩
  · intro j j' T z T' z' b hj hj' hk1 hk2 h1 h2
    have hji : j ≠ i := by rintro rfl; rw [hk] at hk1; cases hk1
    have hji' : j' ≠ i := by rintro rfl; rw [hk] at hk2; cases hk2
    rw [getD_set _ _ _ hlt, if_neg hji] at hj
    rw [getD_set _ _ _ hlt, if_neg hji'] at hj'
    rw [if_neg hji] at h1
    rw [if_neg hji'] at h2
    exact hM.apart j j' T z T' z' b hj hj' hk1 hk2 h1 h2

/-- The frame behind the region, the operations' values being 'env'. -/
def putAll : List Oper → Nat → (Nat → Value) → Act → Act
  | [], _, _, a => a
  | o :: os, i, env, a => putAll os (i + 1) env (a.put o.dst (env i))

theorem putAll_defers : ∀ (l : List Oper) (i : Nat) (env : Nat → Value) (a : Act), (putAll l i env a).defers = a.defers
  | [], _, _, _ => rfl
  | o :: os, i, env, a => by rw [putAll, putAll_defers os, put_defers']

theorem putAll_size : ∀ (l : List Oper) (i : Nat) (env : Nat → Value) (a : Act), (putAll l i env a).tmps.size = a.tmps.size
  | [], _, _, _ => rfl
  | o :: os, i, env, a => by rw [putAll, putAll_size os, put_size]

/-- A slot behind all puts: the last one that writes it, else what it held. -/
theorem putAll_slot : ∀ (l : List Oper) (i : Nat) (env : Nat → Value) (a : Act) (t : Tmp), t < a.tmps.size →
    ((∀ (k : Nat) (o : Oper), l[k]? = some o → o.dst ≠ some t) → (putAll l i env a).tmps[t]? = a.tmps[t]?) ∧
    (∀ (k : Nat) (o : Oper), l[k]? = some o → o.dst = some t → (∀ (k' : Nat) (o' : Oper), l[k']? = some o' → o'.dst = some t → k' ≤ k) → (putAll l i env a).tmps[t]? = some (env (i + k)))
  | [], _, _, _, _, _ => ⟨fun _ => rfl, fun k o h => by simp at h⟩
  | o :: os, i, env, a, t, ht => by
    obtain ⟨h1, h2⟩ := putAll_slot os (i + 1) env (a.put o.dst (env i)) t (by rw [put_size]; exact ht)
    refine ⟨fun h => ?_, fun k o' hk hd hm => ?_⟩
    · rw [putAll, h1 (fun k o' hk => h (k + 1) o' (by simpa using hk))]
      exact put_other _ _ _ _ (h 0 o (by simp))
    · cases k with
      | zero =>
        simp at hk
        subst hk
        rw [putAll, h1 (fun k o' hk' hd' => by have := hm (k + 1) o' (by simpa using hk') hd'; omega), hd]
        exact put_same _ _ _ ht
      | succ k =>
        rw [putAll, h2 k o' (by simpa using hk) hd (fun k' o'' hk' hd' => by have := hm (k' + 1) o'' (by simpa using hk') hd'; omega)]
        congr 2
        omega

theorem frame_end (hok : ROk ops sp base) {listed : Array Bool} {env : Nat → Value} {a : Act} (hF : RFrame ops base listed env a) (m : Nat) (hall : ∀ i, i < m → listed.getD i false = true)
    (hno : ∀ i, m ≤ i → listed.getD i false = false) : a = putAll (ops.toList.take m) 0 env base := by
  have hsz : a.tmps.size = (putAll (ops.toList.take m) 0 env base).tmps.size := by rw [putAll_size, hF.tsize]
  have hd : a.defers = (putAll (ops.toList.take m) 0 env base).defers := by rw [putAll_defers, hF.defers]
  have hlm : ∀ k, listed.getD k false = true → k < m := fun k hk => by
    refine Decidable.byContradiction fun hn => ?_
    rw [hno k (by omega)] at hk
    cases hk
  have hdst : ∀ k t, k < m → rDst ops k = some t → ∃ o, (ops.toList.take m)[k]? = some o ∧ o.dst = some t := by
    intro k t hkm hk
    unfold rDst at hk
    cases ho : ops[k]? with
    | none => rw [ho] at hk; cases hk
    | some o => rw [ho] at hk; exact ⟨o, by rw [List.getElem?_take, if_pos hkm, Array.getElem?_toList]; exact ho, by simpa using hk⟩
  have hdst' : ∀ k o t, (ops.toList.take m)[k]? = some o → o.dst = some t → k < m ∧ rDst ops k = some t := by
    intro k o t hk ht
    rw [List.getElem?_take] at hk
    split at hk
    · rename_i hkm
      rw [Array.getElem?_toList] at hk
      exact ⟨hkm, by simp [rDst, hk, ht]⟩
    · cases hk
  have ht : a.tmps = (putAll (ops.toList.take m) 0 env base).tmps := by
    refine Array.ext hsz (fun t h1 h2 => ?_)
    have hb : t < base.tmps.size := by rw [← hF.tsize]; exact h1
    obtain ⟨p1, p2⟩ := putAll_slot (ops.toList.take m) 0 env base t hb
    have key : a.tmps[t]? = (putAll (ops.toList.take m) 0 env base).tmps[t]? := by
      by_cases hw : ∃ k, k < m ∧ rDst ops k = some t
      · -- the last writer
        have : ∃ k0, k0 < m ∧ rDst ops k0 = some t ∧ ∀ k, k < m → rDst ops k = some t → k ≤ k0 := by
          have : ∀ n, n ≤ m → (∃ k, k < n ∧ rDst ops k = some t) → ∃ k0, k0 < n ∧ rDst ops k0 = some t ∧ ∀ k, k < n → rDst ops k = some t → k ≤ k0 := by
            intro n
            induction n with
            | zero => rintro _ ⟨k, hk, _⟩; omega
            | succ n ih =>
              rintro hnm ⟨k, hk, hkt⟩
              by_cases hnn : rDst ops n = some t
              · exact ⟨n, by omega, hnn, fun k hk _ => by omega⟩
              · have hkn : k ≠ n := fun e => hnn (e ▸ hkt)
                obtain ⟨k0, q1, q2, q3⟩ := ih (by omega) ⟨k, by omega, hkt⟩
                refine ⟨k0, by omega, q2, fun k' hk' hkt' => q3 k' ?_ hkt'⟩
                have : k' ≠ n := fun e => hnn (e ▸ hkt')
                omega
          exact this m (Nat.le_refl _) hw
        obtain ⟨k0, hkm, hm, hmax⟩ := this
        obtain ⟨o, ho, hod⟩ := hdst k0 t hkm hm
        rw [p2 k0 o ho hod (fun k' o' hk' hd' => hmax k' (hdst' k' o' t hk' hd').1 (hdst' k' o' t hk' hd').2)]
        rw [hF.vals k0 t (hall k0 hkm) hm (fun k hkl hkt hkm' => (hok.writes k0 t hm).2 k (by have := hmax k (hlm k hkl) hkt; omega) hkt)]
        simp
      · have hw' : ∀ k, k < m → rDst ops k ≠ some t := fun k hkm hk => hw ⟨k, hkm, hk⟩
        rw [p1 (fun k o hk hd => hw' k (hdst' k o t hk hd).1 (hdst' k o t hk hd).2), hF.slots t (fun k hk => hw' k (hlm k hk))]
    rw [Array.getElem?_eq_getElem h1, Array.getElem?_eq_getElem h2] at key
    exact Option.some.inj key
  cases a
  cases h : putAll (ops.toList.take m) 0 env base
  rw [h] at ht hd
  simp only at ht hd
  rw [ht, hd]

def unl (listed : Array Bool) : Nat → Nat
  | 0 => 0
  | n + 1 => unl listed n + (if listed.getD n false then 0 else 1)

theorem unl_zero (listed : Array Bool) : ∀ n, unl listed n = 0 → ∀ i, i < n → listed.getD i false = true
  | 0, _, i, hi => by omega
  | n + 1, h, i, hi => by
    simp only [unl] at h
    by_cases hin : i = n
    · subst hin
      cases hl : listed.getD i false
      · rw [hl] at h; simp at h
      · rfl
    · exact unl_zero listed n (by omega) i (by omega)

theorem unl_set (listed : Array Bool) (i : Nat) (hi : i < listed.size) (hnl : listed.getD i false = false) : ∀ n, unl (listed.setIfInBounds i true) n + (if i < n then 1 else 0) = unl listed n
  | 0 => by simp [unl]
  | n + 1 => by
    have ih := unl_set listed i hi hnl n
    simp only [unl]
    rw [getD_set _ _ _ hi]
    by_cases hin : n = i
    · subst hin
      simp only [if_true, hnl] at ih ⊢
      simp at ih ⊢
      exact ih
    · rw [if_neg hin]
      have e : (if i < n + 1 then 1 else 0) = (if i < n then 1 else 0) := by
        by_cases h1 : i < n
        · rw [if_pos h1, if_pos (by omega)]
        · rw [if_neg h1, if_neg (by omega)]
      rw [e]
      omega

theorem ready_iff (listed : Array Bool) (hs : listed.size = ops.size) (i : Nat) : i ∈ Region.ready .any ops listed ↔
    listed.getD i false = false ∧ ∃ o, ops[i]? = some o ∧ ∀ e ∈ o.after, Region.binds .any e = true → listed.getD e.on false = true := by
  unfold Region.ready
  simp only [List.mem_filter, List.mem_range, Bool.and_eq_true, Bool.not_eq_true']
  constructor
  · rintro ⟨hi, h1, h2⟩
    have ho : ops[i]? = some ops[i] := Array.getElem?_eq_getElem hi
    refine ⟨?_, _, ho, ?_⟩
    · have : i < listed.size := by omega
      simp [this] at h1 ⊢
      exact h1
    · rw [ho] at h2
      simp only [Option.map_some, Option.getD_some, Array.all_eq_true', Bool.or_eq_true, Bool.not_eq_true'] at h2
      intro e he hb
      have := h2 e he
      rw [hb] at this
      simpa using this
  · rintro ⟨h1, o, ho, h2⟩
    have hi : i < ops.size := (Array.getElem?_eq_some_iff.1 ho).1
    refine ⟨hi, ?_, ?_⟩
    · have : i < listed.size := by omega
      simp [this] at h1 ⊢
      exact h1
    · rw [ho]
      simp only [Option.map_some, Option.getD_some, Array.all_eq_true', Bool.or_eq_true, Bool.not_eq_true']
      intro e he
      cases hb : Region.binds .any e
      · exact .inl rfl
      · exact .inr (h2 e he hb)

theorem all_of_ready_nil (hok : ROk ops sp base) (listed : Array Bool) (hs : listed.size = ops.size) (h : Region.ready .any ops listed = []) : ∀ i, i < ops.size → listed.getD i false = true := by
  intro i
  induction i using Nat.strongRecOn with
  | _ i ih =>
    intro hi
    cases hl : listed.getD i false
    · exfalso
      have ho : ops[i]? = some ops[i] := Array.getElem?_eq_getElem hi
      have : i ∈ Region.ready .any ops listed := (ready_iff listed hs i).2 ⟨hl, _, ho, fun e he hb => ih e.on (hok.top i _ ho e he hb) (by have := hok.top i _ ho e he hb; omega)⟩
      rw [h] at this
      cases this
    · rfl

theorem wanted_of (o : Oper) (y : Nat → Option Bool) (h : ∀ g want, o.guard = some (g, want) → y g = some want) : Region.wanted o y = true := by
  unfold Region.wanted
  cases hg : o.guard with
  | none => rfl
  | some p =>
    obtain ⟨g, want⟩ := p
    simp [h g want hg]

def boolOf : Value → Option Bool | .bool b => some b | _ => none

theorem yielded_of {a : Act} {g : Nat} {t : Tmp} {v : Value} (hd : rDst ops g = some t) (hv : a.tmps[t]? = some v) : yielded ops a.tmps g = boolOf v := by
  unfold yielded
  unfold rDst at hd
  rw [hd]
  simp only [Option.bind_some, hv]
  cases v <;> rfl

/-- From m on every operation waits for all ahead of it. -/
def rTail (ops : Array Oper) (m : Nat) : Bool := decide (m ≤ ops.size) && (List.range ops.size).all fun k => decide (k < m) || (List.range k).all fun j => rBefore ops k j

theorem rTail_spec {m : Nat} (h : rTail ops m = true) : m ≤ ops.size ∧ ∀ k, m ≤ k → k < ops.size → ∀ j, j < k → rBefore ops k j = true := by
  unfold rTail at h
  simp only [Bool.and_eq_true, decide_eq_true_eq, List.all_eq_true, List.mem_range, Bool.or_eq_true] at h
  exact ⟨h.1, fun k hk hkn j hj => (h.2 k hkn).resolve_left (by omega) j hj⟩

theorem wpAny_tail {Q : Exit → Act → World → Prop} (hok : ROk ops sp base) {m0 : Nat} (htail : rTail ops m0 = true) : ∀ (fuel m : Nat) (listed : Array Bool) (a : Act) (w : World), m0 ≤ m → m + fuel = ops.size → listed.size = ops.size →
    (∀ i, i < m → listed.getD i false = true) → (∀ i, m ≤ i → listed.getD i false = false) →
    wpOps P ops Q (List.range' m fuel) a w → wpAny P .any ops Q fuel listed a w := by
  obtain ⟨_, ht⟩ := rTail_spec htail
  intro fuel
  induction fuel with
  | zero =>
    intro m listed a w hm hmn hs hall hno h
    refine ⟨List.eq_nil_iff_forall_not_mem.2 (fun i hi => ?_), by simpa [wpOps] using h⟩
    obtain ⟨h1, o, ho, _⟩ := (ready_iff listed hs i).1 hi
    have := (Array.getElem?_eq_some_iff.1 ho).1
    rw [hall i (by omega)] at h1
    cases h1
  | succ fuel ih =>
    intro m listed a w hm hmn hs hall hno h
    have hmlt : m < ops.size := by omega
    have ho : ops[m]? = some ops[m] := Array.getElem?_eq_getElem hmlt
    have hrm : m ∈ Region.ready .any ops listed := (ready_iff listed hs m).2 ⟨hno m (Nat.le_refl _), _, ho, fun e he hb => hall _ (by have := hok.top m _ ho e he hb; omega)⟩
    refine ⟨fun hnil => (by rw [hnil] at hrm; cases hrm), fun i hi => ?_⟩
    obtain ⟨hnl, o, hio, hr⟩ := (ready_iff listed hs i).1 hi
    have him : i = m := by
      have hilt := (Array.getElem?_eq_some_iff.1 hio).1
      have h1 : m ≤ i := by
        refine Decidable.byContradiction fun hn => ?_
        rw [hall i (by omega)] at hnl
        cases hnl
      refine Decidable.byContradiction fun hn => ?_
      have hb := ht i (by omega) hilt m (by omega)
      have := rReach_listed (listed := listed) (fun k ok hk hok' e he hbe => by
        have hkm : k < m := by
          refine Decidable.byContradiction fun hn => ?_
          rw [hno k (by omega)] at hk
          cases hk
        have := hok.top k ok hok' e he hbe
        exact hall _ (by omega)) 5 i m (fun o' ho' => by rw [hio] at ho'; cases ho'; exact hr) hb
      rw [hno m (Nat.le_refl _)] at this
      cases this
    subst him
    rw [List.range'_succ, wpOps_cons] at h
    refine wpOp_mono (fun a w h => ?_) h
    have hlt' : i < listed.size := by omega
    refine ih (i + 1) _ a w (by omega) (by omega) (by simpa using hs) (fun k hk => ?_) (fun k hk => ?_) h
    · rw [getD_set _ _ _ hlt']
      split
      · rfl
      · exact hall k (by omega)
    · rw [getD_set _ _ _ hlt', if_neg (by omega)]
      exact hno k (by omega)

theorem wpAny_facts {Q : Exit → Act → World → Prop} (hok : ROk ops sp base) {m : Nat} (htail : rTail ops m = true) (hst : ∀ j, Stable (sp.F j)) (hop : ∀ i o, i < m → ops[i]? = some o → OpOk P ops sp base w0 i o)
    (hfin : ∀ (env : Nat → Value) (S : Nat → Prop) (w : World), Below w0.heap.size w0 w → (∀ b, b < w0.heap.size → S b) → (∀ j, j < m → (sp.K j).isAlloc = false → sp.F j S (env ((sp.K j).who j)) w) → wpOps P ops Q (List.range' m (ops.size - m)) (putAll (ops.toList.take m) 0 env base) w) :
    ∀ (fuel : Nat) (listed : Array Bool) (env : Nat → Value) (S : Nat → Prop) (a : Act) (w : World), RFrame ops base listed env a → RMem sp w0 listed env S w → unl listed m = fuel → (∀ i, m ≤ i → listed.getD i false = false) → wpAny P .any ops Q (fuel + (ops.size - m)) listed a w := by
  intro fuel
  obtain ⟨hmn, ht⟩ := rTail_spec htail
  have fin : ∀ (listed : Array Bool) (env : Nat → Value) (S : Nat → Prop) (a : Act) (w : World), RFrame ops base listed env a → RMem sp w0 listed env S w → (∀ i, i < m → listed.getD i false = true) → (∀ i, m ≤ i → listed.getD i false = false) → wpAny P .any ops Q (ops.size - m) listed a w := by
    intro listed env S a w hF hM hall hno
    refine wpAny_tail hok htail (ops.size - m) m listed a w (Nat.le_refl _) (by omega) hF.lsize hall hno ?_
    rw [frame_end hok hF m hall hno]
    exact hfin env S w hM.below hM.sbase (fun j hj hal => hM.facts j (hall j hj) hal)
  induction fuel with
  | zero =>
    intro listed env S a w hF hM hu hno
    rw [Nat.zero_add]
    exact fin listed env S a w hF hM (unl_zero listed m hu) hno
  | succ fuel ih =>
    intro listed env S a w hF hM hu hno
    have hex : ∃ k, k < m ∧ listed.getD k false = false := by
      refine Decidable.byContradiction fun hn => ?_
      have : ∀ n, n ≤ m → unl listed n = 0 := by
        intro n
        induction n with
        | zero => intro _; rfl
        | succ n ihn =>
          intro hnm
          have h1 : listed.getD n false = true := by
            cases h : listed.getD n false
            · exact absurd ⟨n, by omega, h⟩ hn
            · rfl
          simp [unl, ihn (by omega), h1]
      have := this m (Nat.le_refl _)
      omega
    rw [show fuel + 1 + (ops.size - m) = (fuel + (ops.size - m)) + 1 from by omega]
    refine ⟨fun hnil => ?_, fun i hi => ?_⟩
    · obtain ⟨k, hk1, hk2⟩ := hex
      have := all_of_ready_nil hok listed hF.lsize hnil k (by omega)
      rw [hk2] at this
      cases this
    obtain ⟨hnl, o, ho, hr⟩ := (ready_iff listed hF.lsize i).1 hi
    have hlt : i < ops.size := (Array.getElem?_eq_some_iff.1 ho).1
    have hlt' : i < listed.size := by rw [hF.lsize]; exact hlt
    have him : i < m := by
      refine Decidable.byContradiction fun hn => ?_
      obtain ⟨k, hk1, hk2⟩ := hex
      have := rReach_listed hF.closed 5 i k (fun o' ho' => by rw [ho] at ho'; cases ho'; exact hr) (ht i (by omega) hlt k (by omega))
      rw [hk2] at this
      cases this
    have hu' : unl (listed.setIfInBounds i true) m = fuel := by
      have := unl_set listed i hlt' hnl m
      rw [if_pos him] at this
      omega
    have hno' : ∀ k, m ≤ k → (listed.setIfInBounds i true).getD k false = false := fun k hk => by
      rw [getD_set _ _ _ hlt', if_neg (by omega)]
      exact hno k hk
    have hins := insFacts_of hF hM ho hnl hr (sp.ins i) (hok.ins i hlt)
    have hcon : Consts a.eval := ⟨fun _ => rfl, fun _ => rfl, fun _ => rfl⟩
    have hguard : ∀ g want, o.guard = some (g, want) → ∃ t v, rDst ops g = some t ∧ a.tmps[t]? = some v ∧ sp.F g S v w := by
      intro g want hg
      obtain ⟨h1, h2, h3, t, h4, h5⟩ := hok.guard i o g want ho hg
      obtain ⟨hlg, hv⟩ := hF.look ho hnl hr h1 h4 h5
      refine ⟨t, env g, h4, hv, ?_⟩
      have := hM.facts g hlg h2
      rwa [h3] at this
    have hyes : GuardYes sp o → Region.wanted o (yielded ops a.tmps) = true := by
      intro hy
      refine wanted_of o _ (fun g want hg => ?_)
      obtain ⟨t, v, h1, h2, h3⟩ := hguard g want hg
      rw [yielded_of h1 h2, hy g want hg S v w h3]
      rfl
    have hO := hop i o him ho
    unfold wpOp
    simp only [ho]
    unfold OpOk at hO
    cases hK : sp.K i with
    | grow =>
      simp only [hK] at hO
      obtain ⟨hg, hrun⟩ := hO
      rw [if_pos (hyes hg)]
      refine .inl (Upd.upon (hrun a.eval S w hcon hM.below hM.sbase hins) ?_)
      rintro v w' ⟨hb, hf⟩
      exact ih _ _ _ _ _ (hF.step hok ho hnl hr v) (hM.grow hok hst hF hlt' hnl (.inl hK) hb hf) hu' hno'
    | skip =>
      simp only [hK] at hO
      obtain ⟨⟨g, want, hg, hno⟩, hf⟩ := hO
      have hw : Region.wanted o (yielded ops a.tmps) = false := by
        obtain ⟨t, v, h1, h2, h3⟩ := hguard g want hg
        unfold Region.wanted
        rw [hg]
        simp only [yielded_of h1 h2]
        rcases hno S v w h3 with rfl | rfl
        · cases want <;> rfl
        · rfl
      rw [if_neg (by rw [hw]; simp)]
      refine ih _ _ _ _ _ (hF.step hok ho hnl hr undef) (hM.grow (w' := w) hok hst hF hlt' hnl (.inr hK) (Below.refl _ _) ?_) hu' hno'
      exact hf _ _
    | alloc T z =>
      simp only [hK] at hO
      obtain ⟨hg, hrun⟩ := hO
      rw [if_pos (hyes hg)]
      refine .inl ?_
      unfold Oper.wp
      rw [hrun a.eval w]
      exact ih _ _ _ _ _ (hF.step hok ho hnl hr _) (hM.alloc hok hst hF hlt' hnl hK) hu' hno'
    | fill j0 =>
      simp only [hK] at hO
      obtain ⟨hg, hrun⟩ := hO
      rw [if_pos (hyes hg)]
      refine .inl ?_
      obtain ⟨h1, ⟨t, ht, h2⟩, h3, h4, h5⟩ := hok.fill i j0 hlt hK
      obtain ⟨hlj, hv⟩ := hF.look ho hnl hr h1 ht h2
      have hkj : ∃ T z, sp.K j0 = .alloc T z := by
        cases hk : sp.K j0 <;> simp [hk, RKind.isAlloc] at h3
        exact ⟨_, _, rfl⟩
      obtain ⟨T, z, hkj⟩ := hkj
      obtain ⟨b, p1, p2, p3⟩ := hM.priv j0 T z hlj hkj (fun k hk hkk => by
        have hkl : k < ops.size := by
          rw [← hF.lsize]
          refine Decidable.byContradiction fun hn => ?_
          simp [Array.getD, hn] at hk
        have := h5 k hkl hkk
        subst this
        rw [hnl] at hk; cases hk)
      obtain ⟨w', q1, q2, q3⟩ := hrun T z t a.eval S w b hkj ht hcon hM.below hM.sbase hins (by simp [Act.eval, hv, p1]) p3 p2
      unfold Oper.wp
      rw [q1]
      exact ih _ _ _ _ _ (hF.step hok ho hnl hr undef) (hM.fill hok hst hF hlt' hlt hnl hK hlj hkj p1 p2 q2 q3 undef) hu' hno'

theorem unl_replicate (n : Nat) : ∀ m, m ≤ n → unl (Array.replicate n false) m = m
  | 0, _ => rfl
  | m + 1, h => by
    have hm : m < n := by omega
    simp [unl, unl_replicate n m (by omega), hm]

/-- THE LAW: a region that draws its order, by a table of facts. -/
theorem wp_region_facts {id : Nat} {Q : Exit → Act → World → Prop} (sp : RSpec) (hm : P.follows .mixedOrders = true) (hok : rOk ops sp base = true) (hst : ∀ j, Stable (sp.F j))
    {m : Nat} (htail : rTail ops m = true) (hop : ∀ i o, i < m → ops[i]? = some o → OpOk P ops sp base w0 i o)
    (hfin : ∀ (env : Nat → Value) (S : Nat → Prop) (w : World), Below w0.heap.size w0 w → (∀ b, b < w0.heap.size → S b) → (∀ j, j < m → (sp.K j).isAlloc = false → sp.F j S (env ((sp.K j).who j)) w) → wpOps P ops Q (List.range' m (ops.size - m)) (putAll (ops.toList.take m) 0 env base) w) :
    (Code.region id ops true).wp P Q base w0 := by
  obtain ⟨hmn, _⟩ := rTail_spec htail
  have key := wpAny_facts (P := P) (Q := Q) (sp := sp) (w0 := w0) (rOk_spec hok) htail hst hop hfin m (Array.replicate ops.size false) (fun _ => undef) (fun b => b < w0.heap.size) base w0.drew ?_ ?_ (unl_replicate _ _ hmn) (fun i _ => by simp [Array.getD])
  · rw [show m + (ops.size - m) = ops.size from by omega] at key
    exact wp_region_any hm key
  · have hf : ∀ k, (Array.replicate ops.size false).getD k false = true → False := by
      intro k hk
      simp [Array.getD] at hk
    exact ⟨by simp, fun i o h => (hf i h).elim, rfl, rfl, fun _ _ => rfl, fun j t h => (hf j h).elim⟩
  · have hf : ∀ k, (Array.replicate ops.size false).getD k false = true → False := by
      intro k hk
      simp [Array.getD] at hk
    exact ⟨(Below.refl _ w0).drew, fun _ h => h, fun _ h => h, fun j h => (hf j h).elim, fun j _ _ h => (hf j h).elim, fun j _ _ h => (hf j h).elim, fun j _ _ _ _ _ _ h => (hf j h).elim⟩

end

/-- One row of the table: how the operation is met, what is known of its value, what is looked at. -/
structure ROne where
  kind : RKind
  F : (Nat → Prop) → Value → World → Prop
  st : Stable F
  ins : List (Tmp × Option Nat)

theorem Stable.eq (c : Value) : Stable (fun _ v _ => v = c) := fun _ _ _ _ _ h _ _ _ => h
theorem Stable.any : Stable (fun _ _ _ => True) := fun _ _ _ _ _ _ _ _ _ => trivial
theorem Stable.ex {α : Type} {F : α → (Nat → Prop) → Value → World → Prop} (h : ∀ x, Stable (F x)) : Stable (fun S v w => ∃ x, F x S v w) :=
  fun S S' v w w' ⟨x, hx⟩ h1 h2 h3 => ⟨x, h x S S' v w w' hx h1 h2 h3⟩
theorem Stable.and {F G : (Nat → Prop) → Value → World → Prop} (h : Stable F) (k : Stable G) : Stable (fun S v w => F S v w ∧ G S v w) :=
  fun S S' v w w' ⟨x, y⟩ h1 h2 h3 => ⟨h S S' v w w' x h1 h2 h3, k S S' v w w' y h1 h2 h3⟩

/-- The value is known. -/
def RKnown (c : Value) (ins : List (Tmp × Option Nat)) : ROne := { kind := .grow, F := fun _ v _ => v = c, st := Stable.eq c, ins := ins }
/-- The operation is passed over. -/
def RSkip : ROne := { kind := .skip, F := fun _ v _ => v = undef, st := Stable.eq _, ins := [] }
/-- A fact on the value. -/
def RFact (F : (Nat → Prop) → Value → World → Prop) (st : Stable F) (ins : List (Tmp × Option Nat)) : ROne := { kind := .grow, F := F, st := st, ins := ins }
def RAlloc (T : TypeId) (z : Array Value) : ROne := { kind := .alloc T z, F := fun _ _ _ => True, st := Stable.any, ins := [] }
def RFill (j : Nat) (F : (Nat → Prop) → Value → World → Prop) (st : Stable F) (ins : List (Tmp × Option Nat)) : ROne := { kind := .fill j, F := F, st := st, ins := ins }
def RNone : ROne := RFact (fun _ _ _ => True) Stable.any []

def spec (l : List ROne) : RSpec := { K := fun i => (l.getD i RNone).kind, F := fun i => (l.getD i RNone).F, ins := fun i => (l.getD i RNone).ins }
theorem spec_stable (l : List ROne) : ∀ j, Stable ((spec l).F j) := fun j => (l.getD j RNone).st

section
variable {P : Program} {ops : Array Oper} {sp : RSpec} {base : Act} {w0 : World}

def OpsOk (P : Program) (ops : Array Oper) (sp : RSpec) (base : Act) (w0 : World) : Nat → List Oper → Prop
  | _, [] => True
  | i, o :: r => OpOk P ops sp base w0 i o ∧ OpsOk P ops sp base w0 (i + 1) r

theorem OpsOk.at : ∀ (l : List Oper) (i : Nat), OpsOk P ops sp base w0 i l → ∀ (k : Nat) (o : Oper), l[k]? = some o → OpOk P ops sp base w0 (i + k) o
  | [], _, _, k, o, h => by simp at h
  | x :: l, i, h, 0, o, hk => by simp at hk; subst hk; exact h.1
  | x :: l, i, h, k + 1, o, hk => by
    have := OpsOk.at l (i + 1) h.2 k o (by simpa using hk)
    rwa [show i + 1 + k = i + (k + 1) from by omega] at this

theorem OpOk.grow {i : Nat} {o : Oper} (hk : sp.K i = .grow) (hg : GuardYes sp o)
    (h : ∀ (ρ : Operand → Value) (S : Nat → Prop) (w : World), Consts ρ → Below w0.heap.size w0 w → (∀ b, b < w0.heap.size → S b) → InsFacts sp base ρ S w (sp.ins i) →
      Upd P (fun v w' => Below w.heap.size w w' ∧ sp.F i (fun b => S b ∨ w.heap.size ≤ b) v w') ((execOp ρ o).run P w)) : OpOk P ops sp base w0 i o := by
  unfold OpOk
  rw [hk]
  exact ⟨hg, h⟩
theorem OpOk.skip {i : Nat} {o : Oper} (hk : sp.K i = .skip) (hg : GuardNo sp o) (h : ∀ S w, sp.F i S undef w) : OpOk P ops sp base w0 i o := by
  unfold OpOk
  rw [hk]
  exact ⟨hg, h⟩
theorem OpOk.alloc {i : Nat} {o : Oper} {T : TypeId} {z : Array Value} (hk : sp.K i = .alloc T z) (hg : GuardYes sp o)
    (h : ∀ (ρ : Operand → Value) (w : World), (execOp ρ o).run P w = .ok (.value (.pointer (some ⟨w.heap.size, 0, none⟩))) (w.alloc (.cells z T))) : OpOk P ops sp base w0 i o := by
  unfold OpOk
  rw [hk]
  exact ⟨hg, h⟩
theorem OpOk.fill {i : Nat} {o : Oper} {j : Nat} {T : TypeId} {z : Array Value} {t : Tmp} (hk : sp.K i = .fill j) (hk2 : sp.K j = .alloc T z) (ht : rDst ops j = some t) (hg : GuardYes sp o)
    (h : ∀ (ρ : Operand → Value) (S : Nat → Prop) (w : World) (b : Nat), Consts ρ → Below w0.heap.size w0 w → (∀ b, b < w0.heap.size → S b) → InsFacts sp base ρ S w (sp.ins i) →
      ρ (.tmp t) = .pointer (some ⟨b, 0, none⟩) → w.heap[b]? = some (.cells z T) → ¬ S b →
      ∃ w', (execOp ρ o).run P w = .ok .skip w' ∧ OnlyBlock b w w' ∧ sp.F i (fun x => S x ∨ x = b) (.pointer (some ⟨b, 0, none⟩)) w') : OpOk P ops sp base w0 i o := by
  unfold OpOk
  rw [hk]
  refine ⟨hg, ?_⟩
  intro T' z' t' ρ S w b q1 q2 hc hb hS hI hp hh hn
  rw [hk2] at q1
  rw [ht] at q2
  cases q1
  cases q2
  exact h ρ S w b hc hb hS hI hp hh hn

theorem GuardYes.none {o : Oper} (h : o.guard = .none) : GuardYes sp o := fun g want hg => by rw [h] at hg; cases hg
theorem GuardYes.some {o : Oper} {g : Nat} {want : Bool} (h : o.guard = .some (g, want)) (hF : ∀ S v w, sp.F g S v w → v = .bool want) : GuardYes sp o := fun g' want' hg => by
  rw [h] at hg
  cases hg
  exact hF
theorem GuardNo.some {o : Oper} {g : Nat} {want : Bool} (h : o.guard = .some (g, want)) (hF : ∀ S v w, sp.F g S v w → v = .bool (!want) ∨ v = undef) : GuardNo sp o := ⟨g, want, h, hF⟩

/-- The law, by lists. -/
theorem wp_region_table {id : Nat} {Q : Exit → Act → World → Prop} {l : List Oper} (m : Nat) (tab : List ROne) (hm : P.follows .mixedOrders = true) (hok : rOk l.toArray (spec tab) base = true) (htail : rTail l.toArray m = true)
    (hop : OpsOk P l.toArray (spec tab) base w0 0 (l.take m))
    (hfin : ∀ (env : Nat → Value) (S : Nat → Prop) (w : World), Below w0.heap.size w0 w → (∀ b, b < w0.heap.size → S b) → (∀ j, j < m → ((spec tab).K j).isAlloc = false → (spec tab).F j S (env (((spec tab).K j).who j)) w) →
      wpList P l.toArray Q (l.drop m) (putAll (l.take m) 0 env base) w) :
    (Code.region id l.toArray true).wp P Q base w0 := by
  refine wp_region_facts (spec tab) hm hok (spec_stable tab) htail (fun i o hi ho => ?_) (fun env S w h1 h2 h3 => ?_)
  · have := OpsOk.at _ 0 hop i o (by rw [List.getElem?_take, if_pos hi]; simpa using ho)
    rwa [Nat.zero_add] at this
  · have := hfin env S w h1 h2 h3
    have e := wpOps_eq_wpList (P := P) (ops := l.toArray) (Q := Q) (l.drop m) m (fun j => by simp)
    rw [List.length_drop] at e
    have hs : l.toArray.size = l.length := by simp
    rw [hs, e]
    exact this


/-- The order of the text is one of the orders. -/
theorem wpOps_of_any {Q : Exit → Act → World → Prop} (hok : ROk ops sp base) : ∀ (fuel m : Nat) (listed : Array Bool) (a : Act) (w : World), m + fuel = ops.size → listed.size = ops.size →
    (∀ i, i < m → listed.getD i false = true) → (∀ i, m ≤ i → listed.getD i false = false) → wpAny P .any ops Q fuel listed a w → wpOps P ops Q (List.range' m fuel) a w := by
  intro fuel
  induction fuel with
  | zero =>
    intro m listed a w _ _ _ _ h
    simpa [wpOps] using h.2
  | succ fuel ih =>
    intro m listed a w hmn hs hall hno h
    have hmlt : m < ops.size := by omega
    have ho : ops[m]? = some ops[m] := Array.getElem?_eq_getElem hmlt
    have hrm : m ∈ Region.ready .any ops listed := (ready_iff listed hs m).2 ⟨hno m (Nat.le_refl _), _, ho, fun e he hb => hall _ (by have := hok.top m _ ho e he hb; omega)⟩
    rw [List.range'_succ, wpOps_cons]
    have hlt' : m < listed.size := by omega
    refine wpOp_mono (fun a w h => ?_) (h.2 m hrm)
    refine ih (m + 1) _ a w (by omega) (by simpa using hs) (fun k hk => ?_) (fun k hk => ?_) h
    · rw [getD_set _ _ _ hlt']
      split
      · rfl
      · exact hall k (by omega)
    · rw [getD_set _ _ _ hlt', if_neg (by omega)]
      exact hno k (by omega)

/-- The law for a region that does not draw. -/
theorem wp_region_facts_text {id : Nat} {Q : Exit → Act → World → Prop} (sp : RSpec) (hok : rOk ops sp base = true) (hst : ∀ j, Stable (sp.F j))
    {m : Nat} (htail : rTail ops m = true) (hop : ∀ i o, i < m → ops[i]? = some o → OpOk P ops sp base w0 i o)
    (hfin : ∀ (env : Nat → Value) (S : Nat → Prop) (w : World), Below w0.heap.size w0 w → (∀ b, b < w0.heap.size → S b) → (∀ j, j < m → (sp.K j).isAlloc = false → sp.F j S (env ((sp.K j).who j)) w) → wpOps P ops Q (List.range' m (ops.size - m)) (putAll (ops.toList.take m) 0 env base) w) :
    (Code.region id ops false).wp P Q base w0 := by
  obtain ⟨hmn, _⟩ := rTail_spec htail
  have key := wpAny_facts (P := P) (Q := Q) (sp := sp) (w0 := w0) (rOk_spec hok) htail hst hop hfin m (Array.replicate ops.size false) (fun _ => undef) (fun b => b < w0.heap.size) base w0 ?_ ?_ (unl_replicate _ _ hmn) (fun i _ => by simp [Array.getD])
  · rw [show m + (ops.size - m) = ops.size from by omega] at key
    have h := wpOps_of_any (P := P) (rOk_spec hok) ops.size 0 _ _ _ (by omega) (by simp) (fun i hi => by omega) (fun i _ => by simp [Array.getD]) key
    refine wp_region ?_
    rwa [List.range_eq_range']
  · have hf : ∀ k, (Array.replicate ops.size false).getD k false = true → False := by
      intro k hk
      simp [Array.getD] at hk
    exact ⟨by simp, fun i o h => (hf i h).elim, rfl, rfl, fun _ _ => rfl, fun j t h => (hf j h).elim⟩
  · have hf : ∀ k, (Array.replicate ops.size false).getD k false = true → False := by
      intro k hk
      simp [Array.getD] at hk
    exact ⟨Below.refl _ w0, fun _ h => h, fun _ h => h, fun j h => (hf j h).elim, fun j _ _ h => (hf j h).elim, fun j _ _ h => (hf j h).elim, fun j _ _ _ _ _ _ h => (hf j h).elim⟩

theorem wp_region_text {id : Nat} {Q : Exit → Act → World → Prop} {l : List Oper} (m : Nat) (tab : List ROne) (hok : rOk l.toArray (spec tab) base = true) (htail : rTail l.toArray m = true)
    (hop : OpsOk P l.toArray (spec tab) base w0 0 (l.take m))
    (hfin : ∀ (env : Nat → Value) (S : Nat → Prop) (w : World), Below w0.heap.size w0 w → (∀ b, b < w0.heap.size → S b) → (∀ j, j < m → ((spec tab).K j).isAlloc = false → (spec tab).F j S (env (((spec tab).K j).who j)) w) →
      wpList P l.toArray Q (l.drop m) (putAll (l.take m) 0 env base) w) :
    (Code.region id l.toArray false).wp P Q base w0 := by
  refine wp_region_facts_text (spec tab) hok (spec_stable tab) htail (fun i o hi ho => ?_) (fun env S w h1 h2 h3 => ?_)
  · have := OpsOk.at _ 0 hop i o (by rw [List.getElem?_take, if_pos hi]; simpa using ho)
    rwa [Nat.zero_add] at this
  · have := hfin env S w h1 h2 h3
    have e := wpOps_eq_wpList (P := P) (ops := l.toArray) (Q := Q) (l.drop m) m (fun j => by simp)
    rw [List.length_drop] at e
    have hs : l.toArray.size = l.length := by simp
    rw [hs, e]
    exact this

end
end Go.Proofs.Ytjmfaebimgnblaa
