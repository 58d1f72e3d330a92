/-
  Equal data in other words; what a call is told of a function; a call of a function that leaves the caller's boxes alone. Generic: over any program.
-/
import Derived.Test.YtjmfaebimgnblaaAiE
namespace Go.Proofs.Ytjmfaebimgnblaa
open Go.RowKit
set_option linter.unusedVariables false
set_option linter.unusedSimpArgs false

def eqV : V → V → Prop
  | .int k a, .int k' b => if k == k' then a = b else False
  | .bool a, .bool b => a = b
  | .str a, .str b => a = b
  | .sl sz enc _ l, .sl sz' enc' _ l' => if Nat.beq sz sz' then l.map enc = l'.map enc' else False
  | _, _ => False

/-- The same cell in other words. -/
def eqC : D → D → Prop
  | .v x, .v y => eqV x y
  | .nils, .v (.sl _ _ _ l) => l = []
  | .iptr cs off, .iptr cs' off' => if Nat.beq off off' then cs = cs' else False
  | x, y => x = y
def eqL : List D → List D → Prop
  | [], [] => True
  | x :: xs, y :: ys => eqC x y ∧ eqL xs ys
  | _, _ => False
def eqD : D → D → Prop
  | .agg xs, .agg ys => eqL xs ys
  | .tup xs, .tup ys => eqL xs ys
  | x, y => eqC x y

/-- An argument as the callee is told of it: the slices of the call's own as lists. -/
def coC (H : List Box) : D → D → Prop
  | .own id, .v y => match H[id]? with
    | some (.arr _ sz enc d l) => eqV (.sl sz enc d l) y
    | _ => False
  | x, y => eqC x y
def coL (H : List Box) : List D → List D → Prop
  | [], [] => True
  | x :: xs, y :: ys => coC H x y ∧ coL H xs ys
  | _, _ => False
def coD (H : List Box) : D → D → Prop
  | .agg xs, .agg ys => coL H xs ys
  | x, y => coC H x y
def coA (H : List Box) : List D → List D → Prop
  | [], [] => True
  | x :: xs, y :: ys => coD H x y ∧ coA H xs ys
  | _, _ => False

def D.isOwn : D → Bool
  | .own _ => true
  | _ => false
def noOwn : List D → Bool
  | [] => true
  | .own _ :: _ => false
  | .agg cs :: r => cs.all (fun c => !c.isOwn) && noOwn r
  | _ :: r => noOwn r

mutual
def noRef : D → Bool
  | .own _ => false
  | .ptr _ _ _ _ => false
  | .agg cs => noRefL cs
  | .tup cs => noRefL cs
  | .fn _ a b => noRefL a && noRefL b
  | .yld _ => false
  | _ => true
def noRefL : List D → Bool
  | [] => true
  | c :: cs => noRef c && noRefL cs
end

mutual
theorem noRef_free (id : Nat) : ∀ d : D, noRef d = true → D.free id d = true
  | .own _, h => by simp [noRef] at h
  | .ptr _ _ _ _, h => by simp [noRef] at h
  | .agg cs, h => by simp only [noRef] at h; simp only [D.free]; exact noRefL_free id cs h
  | .tup cs, h => by simp only [noRef] at h; simp only [D.free]; exact noRefL_free id cs h
  | .fn _ a b, h => by
    simp only [noRef, Bool.and_eq_true] at h
    simp only [D.free, Bool.and_eq_true]
    exact ⟨noRefL_free id a h.1, noRefL_free id b h.2⟩
  | .yld _, h => by simp [noRef] at h
  | .v _, _ => rfl
  | .nils, _ => rfl
  | .iptr _ _, _ => rfl
  | .capd _, _ => rfl
  | .junk, _ => rfl
theorem noRefL_free (id : Nat) : ∀ cs : List D, noRefL cs = true → D.freeL id cs = true
  | [], _ => rfl
  | c :: cs, h => by
    simp only [noRefL, Bool.and_eq_true] at h
    simp only [D.freeL, Bool.and_eq_true]
    exact ⟨noRef_free id c h.1, noRefL_free id cs h.2⟩
end

/-- WHAT A FUNCTION DOES: called with values that read as 'as', and boxes H, it returns a value that reads as r, and leaves the boxes as H'. 'al': r may share memory with what the arguments read. -/
def CallOk (P : Program) (f : FuncId) (as : List D) (H : List Box) (al : Bool) (r : D) (H' : List Box) : Prop :=
  ∀ (S : Nat → Prop) (μ : Nat → Value) (w : World) (us : Array Value), (∀ b, S b → b < w.heap.size) → HeapRel S μ w H → RepsA S μ w as us →
    Calls P f us w (fun e w' => ∃ (u : Value) (μ' : Nat → Value) (S' : Nat → Prop), e = .returned u ∧ w'.os = w.os ∧ w'.tape = w.tape ∧ w'.output = w.output ∧ w.heap.size ≤ w'.heap.size ∧
      (∀ k, k < w.heap.size → (∀ (i : Nat) (A : Box), H[i]? = some A → A.live = true → blkOf (μ i) ≠ some k) → w'.heap[k]? = w.heap[k]?) ∧
      (∀ b, S b → S' b) ∧ (∀ b, S' b → S b ∨ w.heap.size ≤ b) ∧ (∀ b, S' b → b < w'.heap.size) ∧
      DRep (fun b => S' b ∧ (al = true ∨ w.heap.size ≤ b)) μ' w' r u ∧ HeapRel S' μ' w' H' ∧
      (∀ (i : Nat) (A : Box) (b : Nat), H'[i]? = some A → A.live = true → blkOf (μ' i) = some b → w.heap.size ≤ b ∨ ∃ (j : Nat) (A' : Box), H[j]? = some A' ∧ A'.live = true ∧ blkOf (μ j) = some b) ∧
      (∀ (i : Nat) (A : Box), H[i]? = some A → A.isArr = false → A.live = true → μ' i = μ i))

section
variable {P : Program} {S : Nat → Prop} {μ : Nat → Value} {w : World}

theorem map_get {α β : Type _} {f : α → β} {l : List α} {i : Nat} {x : α} (h : l[i]? = some x) : (l.map f)[i]? = some (f x) := by rw [List.getElem?_map, h]; rfl
theorem map_inv {α β : Type _} {f : α → β} {l : List α} {i : Nat} {y : β} (h : (l.map f)[i]? = some y) : ∃ x, l[i]? = some x ∧ f x = y := by
  rw [List.getElem?_map] at h
  cases hx : l[i]? with
  | none => rw [hx] at h; cases h
  | some x => rw [hx] at h; simp at h; exact ⟨x, rfl, h⟩

theorem sl_retype {sz : Nat} {α β : Type} {enc : α → List V} {d : α} {l : List α} {enc' : β → List V} {d' : β} {l' : List β} {u : Value} (h : Rep S w (.sl sz enc d l) u) (he : l.map enc = l'.map enc') :
    Rep S w (.sl sz enc' d' l') u := by
  have hlen : l.length = l'.length := by have := congrArg List.length he; simpa using this
  obtain ⟨p, c, rfl, h1, h2, h3, h4⟩ := row_inv h
  refine row_mk hlen (by omega) h2 h3 (fun h0 => ?_)
  obtain ⟨b, off, us, q1, q2, q3, q4, q5, q6⟩ := h4 (by omega)
  have back : ∀ (i : Nat) (x : β), l'[i]? = some x → ∃ y, l[i]? = some y ∧ enc y = enc' x := fun i x hx => map_inv (by rw [he]; exact map_get hx)
  refine ⟨b, off, us, q1, q2, q3, fun i x hx => ?_, fun i x j y hx hy => ?_, fun i x j y hx hy => ?_⟩
  · obtain ⟨z, hz, e⟩ := back i x hx
    rw [← e]; exact q4 i z hz
  · obtain ⟨z, hz, e⟩ := back i x hx
    exact q5 i z j y hz (by rw [e]; exact hy)
  · obtain ⟨z, hz, e⟩ := back i x hx
    exact q6 i z j y hz (by rw [e]; exact hy)

theorem eqV_rep {x y : V} {u : Value} (he : eqV x y) (h : Rep S w x u) : Rep S w y u := by
  unfold eqV at he
  split at he
  · split at he
    · rename_i hk
      rw [beq_iff_eq] at hk
      subst he hk
      exact h
    · exact he.elim
  · subst he; exact h
  · subst he; exact h
  · split at he
    · rename_i hs
      rw [Nat.beq_eq] at hs
      subst hs
      exact sl_retype h he
    · exact he.elim
  · exact he.elim

theorem eqC_rep {x y : D} {u : Value} (he : eqC x y) (h : DRep S μ w x u) : DRep S μ w y u := by
  unfold eqC at he
  split at he
  · exact .v _ _ (eqV_rep he (sl_inv h))
  · subst he
    cases h
    exact .v _ _ (.nil _ _ _ _ _ (by simp [maxLen]) (fun _ => rfl))
  · split at he
    · rename_i hs
      rw [Nat.beq_eq] at hs
      subst he hs
      exact h
    · exact he.elim
  · subst he; exact h

theorem eqL_rep : ∀ {xs ys : List D} {us : Array Value}, eqL xs ys → RepsA S μ w xs us → RepsA S μ w ys us
  | xs, ys, us, he, h => by
    have key : ∀ (xs ys : List D), eqL xs ys → xs.length = ys.length ∧ ∀ (j : Nat) (y : D), ys[j]? = some y → ∃ x, xs[j]? = some x ∧ eqC x y := by
      intro xs
      induction xs with
      | nil =>
        intro ys h
        cases ys with
        | nil => exact ⟨rfl, fun j y hy => by simp at hy⟩
        | cons _ _ => exact h.elim
      | cons x xs ih =>
        intro ys h
        cases ys with
        | nil => exact h.elim
        | cons y ys =>
          obtain ⟨h1, h2⟩ := ih ys h.2
          refine ⟨by simp [h1], fun j z hz => ?_⟩
          cases j with
          | zero => simp at hz; subst hz; exact ⟨x, rfl, h.1⟩
          | succ j => simpa using h2 j z (by simpa using hz)
    obtain ⟨h1, h2⟩ := key xs ys he
    exact ⟨by rw [← h1]; exact h.1, fun j y u hy hu => by
      obtain ⟨x, hx, hxy⟩ := h2 j y hy
      exact eqC_rep hxy (h.2 j x u hx hu)⟩

theorem eqD_rep {x y : D} {u : Value} (he : eqD x y) (h : DRep S μ w x u) : DRep S μ w y u := by
  unfold eqD at he
  split at he
  · obtain ⟨us, rfl, h1, h2⟩ := agg_inv h
    obtain ⟨q1, q2⟩ := eqL_rep he ⟨h1, h2⟩
    exact .agg _ _ q1 q2
  · obtain ⟨us, rfl, h1, h2⟩ := tup_inv h
    obtain ⟨q1, q2⟩ := eqL_rep he ⟨h1, h2⟩
    exact .tup _ _ q1 q2
  · exact eqC_rep he h

/-- A slice of the call's own, read as a list. -/
theorem own_rep {S' : Nat → Prop} {E sz : Nat} {α : Type} {enc : α → List V} {d : α} {l : List α} {u : Value} (h : BoxRel S μ w u (.arr E sz enc d l)) (hS : ∀ b, S b → S' b) (hown : ∀ b, blkOf u = some b → S' b)
    (hslt : ∀ b, S b → b < w.heap.size) : Rep S' w (.sl sz enc d l) u := by
  have hlt := h.lt rfl
  obtain ⟨p, c, hu, q1, q2, q3, q4⟩ := own_slice h
  subst hu
  refine row_mk rfl q1 q2 q3 (fun h0 => ?_)
  obtain ⟨g, rfl⟩ := q4 h0
  obtain ⟨r1, xs, r2, r3⟩ := h
  refine ⟨g, 0, fun i j => xs.getD (i * sz + j) undef, rfl, hown g rfl, hlt g rfl, r1, fun i x j y hx hy => ?_, fun i x j y hx hy => ?_⟩
  · obtain ⟨z, hz, _⟩ := r3 i x j y hx hy
    rw [Nat.zero_add, own_cells r2 (b := g) rfl _ _ hz]
    simp [List.getD, hz]
  · obtain ⟨z, hz, hr⟩ := r3 i x j y hx hy
    have : xs.getD (i * sz + j) undef = z := by simp [List.getD, hz]
    show Rep S' w y (xs.getD (i * sz + j) undef)
    rw [this]
    exact hr.stable (fun b hb _ => hS b hb) (fun _ _ _ => rfl) (Nat.le_refl _)

theorem coC_rep {H : List Box} {S' : Nat → Prop} (hH : HeapRel S μ w H) (hS : ∀ b, S b → S' b) (hslt : ∀ b, S b → b < w.heap.size) {x y : D} (hown : (∀ (i : Nat) (A : Box) (b : Nat), H[i]? = some A → A.isArr = true → blkOf (μ i) = some b → S' b) ∨ x.isOwn = false) {u : Value} (he : coC H x y) (h : DRep S μ w x u) : DRep S' μ w y u := by
  unfold coC at he
  split at he
  · rename_i id y
    split at he
    · rename_i E sz α enc d l hb
      have hu := own_inv h
      subst hu
      have ho : ∀ b, blkOf (μ id) = some b → S' b := fun b hb' => by
        rcases hown with hown | hown
        · exact hown id _ b hb rfl hb'
        · cases hown
      exact .v _ _ (eqV_rep he (own_rep (hH.box id _ hb) hS ho hslt))
    · exact he.elim
  · exact eqC_rep he (h.stable (fun b hb _ => hS b hb) (fun _ _ _ => rfl) (Nat.le_refl _) (fun _ _ => rfl))

theorem coL_inv {H : List Box} : ∀ {xs ys : List D}, coL H xs ys → xs.length = ys.length ∧ ∀ (j : Nat) (y : D), ys[j]? = some y → ∃ x, xs[j]? = some x ∧ coC H x y
  | [], [], _ => ⟨rfl, fun j y hy => by simp at hy⟩
  | [], _ :: _, h => h.elim
  | _ :: _, [], h => h.elim
  | x :: xs, y :: ys, h => by
    obtain ⟨h1, h2⟩ := coL_inv h.2
    refine ⟨by simp [h1], fun j z hz => ?_⟩
    cases j with
    | zero => simp at hz; subst hz; exact ⟨x, rfl, h.1⟩
    | succ j => simpa using h2 j z (by simpa using hz)
theorem coA_inv {H : List Box} : ∀ {xs ys : List D}, coA H xs ys → xs.length = ys.length ∧ ∀ (j : Nat) (y : D), ys[j]? = some y → ∃ x, xs[j]? = some x ∧ coD H x y
  | [], [], _ => ⟨rfl, fun j y hy => by simp at hy⟩
  | [], _ :: _, h => h.elim
  | _ :: _, [], h => h.elim
  | x :: xs, y :: ys, h => by
    obtain ⟨h1, h2⟩ := coA_inv h.2
    refine ⟨by simp [h1], fun j z hz => ?_⟩
    cases j with
    | zero => simp at hz; subst hz; exact ⟨x, rfl, h.1⟩
    | succ j => simpa using h2 j z (by simpa using hz)

theorem noOwn_mem : ∀ {l : List D}, noOwn l = true → ∀ (j : Nat) (x : D), l[j]? = some x → x.isOwn = false ∧ ∀ cs, x = .agg cs → ∀ c ∈ cs, D.isOwn c = false
  | [], _, j, x, hx => by simp at hx
  | d :: l, h, j, x, hx => by
    have hl : noOwn l = true := by
      cases d <;> simp_all [noOwn]
    cases j with
    | zero =>
      simp at hx
      subst hx
      refine ⟨by cases d <;> first | rfl | (simp [noOwn] at h), ?_⟩
      rintro cs rfl c hc
      simp only [noOwn, Bool.and_eq_true, List.all_eq_true] at h
      simpa using h.1 c hc
    | succ j => exact noOwn_mem hl j x (by simpa using hx)

theorem coA_rep {H : List Box} {S' : Nat → Prop} (hH : HeapRel S μ w H) (hS : ∀ b, S b → S' b) (hslt : ∀ b, S b → b < w.heap.size) {ds as : List D}
    (hown : (∀ (i : Nat) (A : Box) (b : Nat), H[i]? = some A → A.isArr = true → blkOf (μ i) = some b → S' b) ∨ noOwn ds = true) {us : Array Value} (he : coA H ds as) (h : RepsA S μ w ds us) : RepsA S' μ w as us := by
  obtain ⟨h1, h2⟩ := coA_inv he
  refine ⟨by rw [← h1]; exact h.1, fun j y u hy hu => ?_⟩
  obtain ⟨x, hx, hxy⟩ := h2 j y hy
  have hx' := h.2 j x u hx hu
  unfold coD at hxy
  split at hxy
  · rename_i xs ys
    obtain ⟨vs, rfl, q1, q2⟩ := agg_inv hx'
    obtain ⟨r1, r2⟩ := coL_inv hxy
    refine .agg _ _ (by rw [← r1]; exact q1) (fun k z v hz hv => ?_)
    obtain ⟨x', hx1, hx2⟩ := r2 k z hz
    exact coC_rep hH hS hslt (hown.imp id fun hn => (noOwn_mem hn j _ hx).2 _ rfl x' (List.mem_of_getElem? hx1)) hx2 (q2 k x' v hx1 hv)
  · exact coC_rep hH hS hslt (hown.imp id fun hn => (noOwn_mem hn j _ hx).1) hxy hx'

end

section
variable {C : Ctx} {S : Nat → Prop} {μ : Nat → Value} {st : St} {a : Act} {w w' : World}

/-- New memory, and all old blocks as they were. -/
theorem Rel.grow (h : Rel C S μ st a w) {S' : Nat → Prop} (h1 : w'.os = w.os) (h2 : w'.tape = w.tape) (h3 : w'.output = w.output) (h4 : w.heap.size ≤ w'.heap.size) (h5 : ∀ k, k < w.heap.size → w'.heap[k]? = w.heap[k]?)
    (h6 : ∀ b, S b → S' b) (h7 : ∀ b, S' b → S b ∨ w.heap.size ≤ b) (h8 : ∀ b, S' b → b < w'.heap.size) : Rel C S' μ st a w' := by
  have hblk : ∀ (i : Nat) (A : Box), st.heap[i]? = some A → A.live = true → ∀ b, blkOf (μ i) = some b → w'.heap[b]? = w.heap[b]? := fun i A hA hl b hb => h5 b ((h.heap.box i A hA).lt hl b hb)
  refine ⟨h1.trans h.os, h2.trans h.tape, h3.trans h.output, Nat.le_trans h.size h4, fun k hk => by rw [h5 k (Nat.lt_of_lt_of_le hk h.size)]; exact h.old k hk, fun b hb => h6 b (h.mono b hb), ?_, h8, ?_, ⟨?_, h.heap.apart, ?_⟩, h.may, ?_, h.tsize⟩
  · intro b hb
    rcases h7 b hb with hb | hb
    · exact h.new b hb
    · exact .inr (Nat.le_trans h.size hb)
  · intro t d hm
    obtain ⟨q1, q2⟩ := h.env t d hm
    exact ⟨q1, q2.stable (fun b hb _ => h6 b hb) (fun b hb hl => h5 b hl) h4 (fun _ _ => rfl)⟩
  · intro i A hA
    cases hl : A.live
    · cases A <;> first | trivial | cases hl
    · exact (h.heap.box i A hA).stable (fun b hb _ => h6 b hb) (fun b hb hl => h5 b hl) h4 (fun _ _ => rfl) (hblk i A hA hl)
  · intro i A b hA hl hb hS
    rcases h7 b hS with hS | hS
    · exact h.heap.notS i A b hA hl hb hS
    · have := (h.heap.box i A hA).lt hl b hb
      omega
  · obtain ⟨mk, d1, d2, d3⟩ := h.defers
    refine ⟨mk, d1, d2, fun b hb => ?_⟩
    obtain ⟨q1, q2, q3, q4⟩ := d3 b hb
    have hlt : b < w.heap.size := (Array.getElem?_eq_some_iff.1 q1).1
    exact ⟨by rw [h5 b hlt]; exact q1, q2, fun hb' => (h7 b hb').elim q3 (fun h => by omega), q4⟩

/-- A call of a function that is handed no box: S1 is what it may read. -/
theorem Rel.callCore (h : Rel C S μ st a w) {f : FuncId} {as : List D} {al : Bool} {r : D} {us : Array Value} (hc : CallOk C.P f as [] al r []) {S1 : Nat → Prop} (h1 : ∀ b, S b → S1 b) (h2 : ∀ b, S1 b → b < w.heap.size)
    (h3 : al = true → ∀ b, S1 b → S b) (hus : RepsA S1 μ w as us) (hr : noRef r = true) {K : Value → World → Prop} (hK : ∀ S' u w', Rel C S' μ st a w' → DRep S' μ w' r u → K u w') :
    Calls C.P f us w (fun e w' => ∃ u, e = .returned u ∧ K u w') := by
  have slt := h.slt
  refine (hc S1 μ w us h2 ⟨fun id B hB => by simp at hB, fun i j A B b hA => by simp at hA, fun i A b hA => by simp at hA⟩ hus).mono ?_
  rintro e w' ⟨u, μ', S', rfl, q1, q2, q3, q4, q5, q6, q7, q8, q9, _⟩
  refine ⟨u, rfl, hK (fun b => S b ∨ (S' b ∧ w.heap.size ≤ b)) u w' (h.grow q1 q2 q3 q4 (fun k hk => q5 k hk (fun i A hA => by simp at hA)) (fun b hb => .inl hb) ?_ ?_) ?_⟩
  · rintro b (hb | ⟨_, hb⟩)
    · exact .inl hb
    · exact .inr hb
  · rintro b (hb | ⟨hb, _⟩)
    · exact Nat.lt_of_lt_of_le (slt b hb) q4
    · exact q8 b hb
  · refine q9.stable ?_ (fun _ _ _ => rfl) (Nat.le_refl _) (fun id hid => by rw [noRef_free id r hr] at hid; cases hid)
    rintro b ⟨hb, hb2⟩ _
    rcases q7 b hb with hb3 | hb3
    · rcases hb2 with hb2 | hb2
      · exact .inl (h3 hb2 b hb3)
      · exact .inr ⟨hb, hb2⟩
    · exact .inr ⟨hb, hb3⟩

/-- What is owed at a call. -/
def callOb (P : Program) (g : FuncId) (H : List Box) (ds : List D) (as : Option (List D)) (al : Bool) (r : D) : Prop :=
  match as with
  | none => CallOk P g ds [] al r []
  | some as => coA H ds as ∧ CallOk P g as [] al r []

theorem Rel.callPure (h : Rel C S μ st a w) {f : FuncId} {ds : List D} {as : Option (List D)} {al : Bool} {r : D} {us : Array Value} (hc : callOb C.P f st.heap ds as al r) (hus : RepsA S μ w ds us) (hal : al = false ∨ noOwn ds = true)
    (hr : noRef r = true) {K : Value → World → Prop} (hK : ∀ S' u w', Rel C S' μ st a w' → DRep S' μ w' r u → K u w') :
    Calls C.P f us w (fun e w' => ∃ u, e = .returned u ∧ K u w') := by
  cases as with
  | none => exact h.callCore hc (fun _ h => h) h.slt (fun _ _ h => h) hus hr hK
  | some as =>
    obtain ⟨hco, hc⟩ := hc
    have slt := h.slt
    have hSc : ∀ b, (S b ∨ (al = false ∧ ∃ (i : Nat) (A : Box), st.heap[i]? = some A ∧ A.isArr = true ∧ blkOf (μ i) = some b)) → b < w.heap.size := by
      rintro b (hb | ⟨_, i, A, hA, hl, hb⟩)
      · exact slt b hb
      · exact (h.heap.box i A hA).lt (by cases A <;> first | rfl | cases hl) b hb
    refine h.callCore hc (S1 := fun b => S b ∨ (al = false ∧ ∃ (i : Nat) (A : Box), st.heap[i]? = some A ∧ A.isArr = true ∧ blkOf (μ i) = some b)) (fun b hb => .inl hb) hSc ?_ ?_ hr hK
    · rintro hal b (hb | ⟨h0, _⟩)
      · exact hb
      · rw [hal] at h0; cases h0
    · refine coA_rep h.heap (fun b hb => .inl hb) slt ?_ hco hus
      rcases hal with hal | hal
      · exact .inl (fun i A b hA hl hb => .inr ⟨hal, i, A, hA, hl, hb⟩)
      · exact .inr hal

end
end Go.Proofs.Ytjmfaebimgnblaa
