/-
  Pure data behind Go's memory: what a value in a world reads as, and that it stays so. Generic: over any program.
-/
import Derived.Test.YtjmfaebimgnblaaReg
import Derived.WalkSpells
import Derived.Lib.Hide
import Derived.WalkLawsBesides
import Derived.Laws.AppendOwnNone
namespace Go.Proofs.Ytjmfaebimgnblaa
open Go.RowKit
set_option linter.unusedVariables false
set_option linter.unusedSimpArgs false

/-- Pure data of one cell: a number, a bool, a string, a slice that nobody writes any more (its elements have sz cells each). -/
inductive V : Type 1
  | int (k : IntKind) (n : Int)
  | bool (b : Bool)
  | str (s : ByteArray)
  | sl (sz : Nat) {α : Type} (enc : α → List V) (d : α) (l : List α)

/-- Value u reads as x; its cells lie in blocks of S. -/
inductive Rep (S : Nat → Prop) (w : World) : V → Value → Prop
  | int (k : IntKind) (n : Int) : Rep S w (.int k n) (.int k n)
  | bool (b : Bool) : Rep S w (.bool b) (.bool b)
  | str (s : ByteArray) : Rep S w (.str s) (.string s)
  | nil (sz : Nat) {α : Type} (enc : α → List V) (d : α) (p : Option Addr) (c : Nat) : c ≤ maxLen → (p = none → c = 0) → Rep S w (.sl sz enc d []) (.slice p 0 c)
  | row (sz : Nat) {α : Type} (enc : α → List V) (d : α) (l : List α) (b off c n : Nat) (us : Nat → Nat → Value) : S b → b < w.heap.size → n = l.length → n ≤ c → c ≤ maxLen →
      (∀ (i : Nat) (x : α), l[i]? = some x → (enc x).length = sz) →
      (∀ (i : Nat) (x : α) (j : Nat) (y : V), l[i]? = some x → (enc x)[j]? = some y → w.cell? ⟨b, off + (i * sz + j), none⟩ = some (us i j)) →
      (∀ (i : Nat) (x : α) (j : Nat) (y : V), l[i]? = some x → (enc x)[j]? = some y → Rep S w y (us i j)) → Rep S w (.sl sz enc d l) (.slice (some ⟨b, off, none⟩) n c)

theorem Rep.stable {S S' : Nat → Prop} {w w' : World} {x : V} {u : Value} (h : Rep S w x u) (hS : ∀ b, S b → b < w.heap.size → S' b)
    (hw : ∀ b, S b → b < w.heap.size → w'.heap[b]? = w.heap[b]?) (hsz : w.heap.size ≤ w'.heap.size) : Rep S' w' x u := by
  induction h with
  | int k n => exact .int k n
  | bool b => exact .bool b
  | str s => exact .str s
  | nil sz enc d p c h1 h2 => exact .nil sz enc d p c h1 h2
  | row sz enc d l b off c n us h1 h2 h3 h4 h5 h6 h7 _ ih =>
    exact .row sz enc d l b off c n us (hS b h1 h2) (by omega) h3 h4 h5 h6 (fun i x j y hx hy => by rw [← h7 i x j y hx hy]; exact World.cell?_of_block (hw b h1 h2)) ih

theorem Rep.later {S : Nat → Prop} {w w' : World} {x : V} {u : Value} (h : Rep S w x u) (hb : Below w.heap.size w w') : Rep S w' x u :=
  h.stable (fun _ h _ => h) (fun b _ hb' => hb.block b hb') hb.size

theorem Rep.one {S : Nat → Prop} {w : World} {x : V} {u : Value} (h : Rep S w x u) : u.oneCell' = true := by
  cases h <;> rfl

/-- What a slot, or a cell of a variable of the call's own, holds. -/
inductive D : Type 1
  | v (x : V)
  /-- the nil slice -/
  | nils
  /-- the slice of box id -/
  | own (id : Nat)
  /-- the address of a cell of box id: i * sz + off -/
  | ptr (id i sz off : Nat)
  /-- the address of a cell of memory that nobody writes any more -/
  | iptr (cs : List V) (off : Nat)
  | agg (cs : List D)
  | tup (cs : List D)
  | fn (f : Fn) (first cap : List D)
  /-- the yield of the loop in box id -/
  | yld (id : Nat)
  /-- a slice that nobody writes any more, whose capacity is its length -/
  | capd (x : V)
  | junk

mutual
/-- It does not speak of box id. -/
def D.free (id : Nat) : D → Bool
  | .own i => !(Nat.beq i id)
  | .ptr i _ _ _ => !(Nat.beq i id)
  | .agg cs => D.freeL id cs
  | .tup cs => D.freeL id cs
  | .fn _ a b => D.freeL id a && D.freeL id b
  | .yld i => !(Nat.beq i id)
  | _ => true
def D.freeL (id : Nat) : List D → Bool
  | [] => true
  | c :: cs => D.free id c && D.freeL id cs
end

def blkOf : Value → Option Nat
  | .pointer (some a) => some a.block
  | .slice (some a) _ _ => some a.block
  | _ => none

/-- Slot value u reads as d; box id is the value μ id. -/
inductive DRep (S : Nat → Prop) (μ : Nat → Value) (w : World) : D → Value → Prop
  | v (x : V) (u : Value) : Rep S w x u → DRep S μ w (.v x) u
  | nils : DRep S μ w .nils (.slice none 0 0)
  | own (id : Nat) : DRep S μ w (.own id) (μ id)
  | ptr (id i sz off b : Nat) : blkOf (μ id) = some b → DRep S μ w (.ptr id i sz off) (.pointer (some ⟨b, i * sz + off, none⟩))
  | iptr (cs : List V) (off b o : Nat) (us : Nat → Value) : S b → b < w.heap.size → (∀ (j : Nat) (y : V), cs[j]? = some y → w.cell? ⟨b, o + j, none⟩ = some (us j)) →
      (∀ (j : Nat) (y : V), cs[j]? = some y → Rep S w y (us j)) → DRep S μ w (.iptr cs off) (.pointer (some ⟨b, o + off, none⟩))
  | agg (cs : List D) (us : Array Value) : us.size = cs.length → (∀ (j : Nat) (y : D) (u : Value), cs[j]? = some y → us[j]? = some u → DRep S μ w y u) → DRep S μ w (.agg cs) (.agg us)
  | tup (cs : List D) (us : Array Value) : us.size = cs.length → (∀ (j : Nat) (y : D) (u : Value), cs[j]? = some y → us[j]? = some u → DRep S μ w y u) → DRep S μ w (.tup cs) (.tuple us)
  | fn (f : Fn) (first cap : List D) (us vs : Array Value) : us.size = first.length → (∀ (j : Nat) (y : D) (u : Value), first[j]? = some y → us[j]? = some u → DRep S μ w y u) →
      vs.size = cap.length → (∀ (j : Nat) (y : D) (u : Value), cap[j]? = some y → vs[j]? = some u → DRep S μ w y u) → DRep S μ w (.fn f first cap) (.func f us vs)
  | yld (id l : Nat) : blkOf (μ id) = some l → DRep S μ w (.yld id) (.func (.yield l) #[] #[])
  | capd (x : V) (p : Option Addr) (n : Nat) : Rep S w x (.slice p n n) → DRep S μ w (.capd x) (.slice p n n)
  | junk (u : Value) : DRep S μ w .junk u

theorem D.freeL_get {id : Nat} : ∀ {cs : List D} {j : Nat} {y : D}, D.freeL id cs = true → cs[j]? = some y → D.free id y = true
  | [], _, _, _, h => by simp at h
  | c :: cs, 0, y, h, hy => by
    simp only [D.freeL, Bool.and_eq_true] at h
    simp at hy
    subst hy
    exact h.1
  | c :: cs, j + 1, y, h, hy => by
    simp only [D.freeL, Bool.and_eq_true] at h
    exact D.freeL_get h.2 (by simpa using hy)

/-- The fact stays: the blocks of S, and the boxes that d speaks of, are where they were. -/
theorem DRep.stable {S S' : Nat → Prop} {μ μ' : Nat → Value} {w w' : World} {d : D} {u : Value} (h : DRep S μ w d u) (hS : ∀ b, S b → b < w.heap.size → S' b)
    (hw : ∀ b, S b → b < w.heap.size → w'.heap[b]? = w.heap[b]?) (hsz : w.heap.size ≤ w'.heap.size) (hμ : ∀ id, d.free id = false → μ' id = μ id) : DRep S' μ' w' d u := by
  induction h with
  | v x u h => exact .v x u (h.stable hS hw hsz)
  | nils => exact .nils
  | own id => rw [← hμ id (by simp [D.free])]; exact .own id
  | ptr id i sz off b h => exact .ptr id i sz off b (by rw [hμ id (by simp [D.free])]; exact h)
  | yld id l h => exact .yld id l (by rw [hμ id (by simp [D.free])]; exact h)
  | iptr cs off b o us h1 h2 h3 h4 => exact .iptr cs off b o us (hS b h1 h2) (by omega) (fun j y hy => by rw [← h3 j y hy]; exact World.cell?_of_block (hw b h1 h2)) (fun j y hy => (h4 j y hy).stable hS hw hsz)
  | agg cs us h1 _ ih =>
    refine .agg cs us h1 (fun j y u hy hu => ih j y u hy hu (fun id hf => hμ id ?_))
    simp only [D.free]
    cases hc : D.freeL id cs
    · rfl
    · rw [D.freeL_get hc hy] at hf; cases hf
  | tup cs us h1 _ ih =>
    refine .tup cs us h1 (fun j y u hy hu => ih j y u hy hu (fun id hf => hμ id ?_))
    simp only [D.free]
    cases hc : D.freeL id cs
    · rfl
    · rw [D.freeL_get hc hy] at hf; cases hf
  | fn f a b us vs h1 _ h2 _ ih1 ih2 =>
    refine .fn f a b us vs h1 (fun j y u hy hu => ih1 j y u hy hu (fun id hf => hμ id ?_)) h2 (fun j y u hy hu => ih2 j y u hy hu (fun id hf => hμ id ?_))
    · simp only [D.free]
      cases hc : D.freeL id a
      · rfl
      · rw [D.freeL_get hc hy] at hf; cases hf
    · simp only [D.free]
      cases hc : D.freeL id b
      · simp
      · rw [D.freeL_get hc hy] at hf; cases hf
  | capd x p n h => exact .capd x p n (h.stable hS hw hsz)
  | junk u => exact .junk u

theorem DRep.later {S : Nat → Prop} {μ : Nat → Value} {w w' : World} {d : D} {u : Value} (h : DRep S μ w d u) (hb : Below w.heap.size w w') : DRep S μ w' d u :=
  h.stable (fun _ h _ => h) (fun b _ hb' => hb.block b hb') hb.size (fun _ _ => rfl)

/-- It is one cell. -/
def D.one : D → Bool
  | .agg _ => false
  | .tup _ => false
  | .junk => false
  | .own _ => true
  | _ => true

/-- A variable of the call's own: dead, a variable of type T with its cells, or the array of a slice of E's (sz cells each). -/
inductive Box : Type 1
  | dead
  | var (T : TypeId) (cs : List D)
  | arr (E : TypeId) (sz : Nat) {α : Type} (enc : α → List V) (d : α) (l : List α)
  /-- the record of a range over a function: the slots of the activation, what a round runs, how it stands -/
  | loop (l : Nat) (tm : Array Value) (nt : Nat) (env : List (Nat × D)) (ps : List Nat) (assign body : Code) (state : LoopState) (pending : Option Code)
  /-- no memory: the slots tm of an activation that waits for another one to end -/
  | frame (tm : Array Value) (env : List (Nat × D))

/-- No slot speaks of box id. -/
def freeE (id : Nat) : List (Nat × D) → Bool
  | [] => true
  | (_, d) :: r => D.free id d && freeE id r
theorem freeE_mem {id : Nat} : ∀ {env : List (Nat × D)} {t : Nat} {d : D}, freeE id env = true → (t, d) ∈ env → D.free id d = true
  | (s, e) :: r, t, d, h, hm => by
    simp only [freeE, Bool.and_eq_true] at h
    rcases List.mem_cons.1 hm with hm | hm
    · cases hm; exact h.1
    · exact freeE_mem h.2 hm

def BoxRel (S : Nat → Prop) (μ : Nat → Value) (w : World) (u : Value) : Box → Prop
  | .dead => True
  | .var T cs => ∃ b vs, u = .pointer (some ⟨b, 0, none⟩) ∧ w.heap[b]? = some (.cells vs T (0, 0)) ∧ vs.size = cs.length ∧ ∀ (j : Nat) (y : D) (x : Value), cs[j]? = some y → vs[j]? = some x → DRep S μ w y x
  | .arr (α := α) E sz enc _ l => (∀ (i : Nat) (x : α), l[i]? = some x → (enc x).length = sz) ∧ ∃ xs, w.ownsRow 0 E sz u l.length xs ∧ ∀ (i : Nat) (x : α) (j : Nat) (y : V), l[i]? = some x → (enc x)[j]? = some y → ∃ z, xs[i * sz + j]? = some z ∧ Rep S w y z

  | .loop l tm nt env ps assign body state pending => ∃ (r : Loop), u = .pointer (some ⟨l, 0, none⟩) ∧ w.heap[l]? = some (.loop r) ∧ r.state = state ∧ r.pending = pending ∧ r.params = ps.toArray ∧ r.assign = assign ∧ r.body = body ∧ r.tmps = tm ∧ tm.size = nt ∧
      ∀ (t : Nat) (d : D), (t, d) ∈ env → t < nt ∧ DRep S μ w d (tm.getD t undef)
  | .frame tm env => u = .bool true ∧ ∀ (t : Nat) (d : D), (t, d) ∈ env → t < tm.size ∧ DRep S μ w d (tm.getD t undef)

def Box.live : Box → Bool
  | .dead => false
  | _ => true

def Box.isArr : Box → Bool
  | .arr _ _ _ _ _ => true
  | _ => false

def Box.free (id : Nat) : Box → Bool
  | .var _ cs => D.freeL id cs
  | .loop _ _ _ env _ _ _ _ _ => freeE id env
  | .frame _ env => freeE id env
  | _ => true

theorem BoxRel.stable {S S' : Nat → Prop} {μ μ' : Nat → Value} {w w' : World} {u : Value} {B : Box} (h : BoxRel S μ w u B) (hS : ∀ b, S b → b < w.heap.size → S' b)
    (hw : ∀ b, S b → b < w.heap.size → w'.heap[b]? = w.heap[b]?) (hsz : w.heap.size ≤ w'.heap.size) (hμ : ∀ id, B.free id = false → μ' id = μ id)
    (hb : ∀ b, blkOf u = some b → w'.heap[b]? = w.heap[b]?) : BoxRel S' μ' w' u B := by
  cases B with
  | dead => trivial
  | var T cs =>
    obtain ⟨b, vs, rfl, h1, h2, h3⟩ := h
    refine ⟨b, vs, rfl, by rw [hb b rfl]; exact h1, h2, fun j y x hy hx => (h3 j y x hy hx).stable hS hw hsz (fun id hf => hμ id ?_)⟩
    simp only [Box.free]
    cases hc : D.freeL id cs
    · rfl
    · rw [D.freeL_get hc hy] at hf; cases hf
  | arr E sz enc d l =>
    obtain ⟨h0, xs, ⟨h1, h2⟩, h3⟩ := h
    refine ⟨h0, xs, ⟨h1, ?_⟩, fun i x j y hx hy => ?_⟩
    · rcases h2 with h2 | ⟨g, cap, cur, rfl, hg, hh, r⟩
      · exact .inl h2
      · exact .inr ⟨g, cap, cur, rfl, hg, by rw [hb g rfl]; exact hh, r⟩
    · obtain ⟨z, hz, hr⟩ := h3 i x j y hx hy
      exact ⟨z, hz, hr.stable hS hw hsz⟩
  | loop l tm nt env ps assign body state pending =>
    obtain ⟨r, rfl, h1, h2, h3, h4, h5, h6, h7, h7', h8⟩ := h
    refine ⟨r, rfl, by rw [hb l rfl]; exact h1, h2, h3, h4, h5, h6, h7, h7', fun t d hm => ?_⟩
    obtain ⟨q1, q2⟩ := h8 t d hm
    refine ⟨q1, q2.stable hS hw hsz (fun id hf => hμ id ?_)⟩
    simp only [Box.free]
    cases hc : freeE id env
    · rfl
    · rw [freeE_mem hc hm] at hf; cases hf
  | frame tm env =>
    obtain ⟨rfl, h8⟩ := h
    refine ⟨rfl, fun t d hm => ?_⟩
    obtain ⟨q1, q2⟩ := h8 t d hm
    refine ⟨q1, q2.stable hS hw hsz (fun id hf => hμ id ?_)⟩
    simp only [Box.free]
    cases hc : freeE id env
    · rfl
    · rw [freeE_mem hc hm] at hf; cases hf

theorem BoxRel.lt {S : Nat → Prop} {μ : Nat → Value} {w : World} {u : Value} {B : Box} (h : BoxRel S μ w u B) (hl : B.live = true) : ∀ b, blkOf u = some b → b < w.heap.size := by
  intro b hb
  cases B with
  | dead => cases hl
  | var T cs =>
    obtain ⟨b', vs, rfl, h1, _⟩ := h
    simp [blkOf] at hb
    subst hb
    exact (Array.getElem?_eq_some_iff.1 h1).1
  | arr E sz enc d l =>
    obtain ⟨_, xs, ⟨h1, h2⟩, _⟩ := h
    rcases h2 with ⟨rfl, _⟩ | ⟨g, cap, cur, rfl, hg, hh, r⟩
    · simp [blkOf] at hb
    · simp [blkOf] at hb
      subst hb
      exact (Array.getElem?_eq_some_iff.1 hh).1
  | loop l tm nt env ps assign body state pending =>
    obtain ⟨r, rfl, h1, _⟩ := h
    simp [blkOf] at hb
    subst hb
    exact (Array.getElem?_eq_some_iff.1 h1).1
  | frame tm env =>
    obtain ⟨rfl, _⟩ := h
    simp [blkOf] at hb

/-- All boxes, apart from one another and from S. -/
structure HeapRel (S : Nat → Prop) (μ : Nat → Value) (w : World) (H : List Box) : Prop where
  box : ∀ (id : Nat) (B : Box), H[id]? = some B → BoxRel S μ w (μ id) B
  apart : ∀ (i j : Nat) (A B : Box) (b : Nat), H[i]? = some A → H[j]? = some B → A.live = true → B.live = true → blkOf (μ i) = some b → blkOf (μ j) = some b → i = j
  notS : ∀ (i : Nat) (A : Box) (b : Nat), H[i]? = some A → A.live = true → blkOf (μ i) = some b → ¬ S b

/-- What the call is told, and what it may write. -/
structure Ctx where
  P : Program
  /-- the world in which the call began -/
  W : World
  /-- the old blocks that its arguments read -/
  S0 : Nat → Prop
  nt : Nat
  /-- the marks of the activations that wait -/
  susp : List Nat
  /-- the loop whose round this is -/
  rd : Option Nat

structure St : Type 1 where
  env : List (Nat × D)
  heap : List Box

structure Rel (C : Ctx) (S : Nat → Prop) (μ : Nat → Value) (st : St) (a : Act) (w : World) : Prop where
  os : w.os = C.W.os
  tape : w.tape = C.W.tape
  output : w.output = C.W.output
  size : C.W.heap.size ≤ w.heap.size
  old : ∀ k, k < C.W.heap.size → w.heap[k]? = C.W.heap[k]?
  mono : ∀ b, C.S0 b → S b
  new : ∀ b, S b → C.S0 b ∨ C.W.heap.size ≤ b
  slt : ∀ b, S b → b < w.heap.size
  env : ∀ (t : Nat) (d : D), (t, d) ∈ st.env → t < C.nt ∧ DRep S μ w d (a.tmps.getD t undef)
  heap : HeapRel S μ w st.heap
  may : ∀ (i : Nat) (A : Box) (b : Nat), st.heap[i]? = some A → A.live = true → blkOf (μ i) = some b → C.W.heap.size ≤ b
  defers : ∃ mk : List Nat, a.defers = mk.map (fun b => { target := .collected b, args := #[] }) ∧ (mk ++ C.susp).Nodup ∧ ∀ b ∈ mk ++ C.susp, w.heap[b]? = some (.deferred (some [])) ∧ C.W.heap.size ≤ b ∧ ¬ S b ∧ ∀ (i : Nat) (A : Box), st.heap[i]? = some A → A.live = true → blkOf (μ i) ≠ some b
  tsize : a.tmps.size = C.nt

end Go.Proofs.Ytjmfaebimgnblaa
