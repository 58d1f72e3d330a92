/-
  The state of a call, on pure data: slots and boxes; what a write does to it. Generic: over any program.
-/
import Derived.Test.YtjmfaebimgnblaaAiD
namespace Go.Proofs.Ytjmfaebimgnblaa
open Go.RowKit
set_option linter.unusedVariables false
set_option linter.unusedSimpArgs false

def lookE : List (Nat × D) → Nat → D
  | [], _ => .junk
  | (s, d) :: r, t => if Nat.beq s t then d else lookE r t
def dropE : List (Nat × D) → Nat → List (Nat × D)
  | [], _ => []
  | (s, d) :: r, t => if Nat.beq s t then dropE r t else (s, d) :: dropE r t
def putE (env : List (Nat × D)) (t : Nat) (d : D) : List (Nat × D) := (t, d) :: dropE env t
def putO (env : List (Nat × D)) : Option Nat → D → List (Nat × D)
  | none, _ => env
  | some t, d => putE env t d

def evD (env : List (Nat × D)) : Operand → D
  | .tmp t => lookE env t
  | .const v => D.ofVal v
  | .func f => .fn (.func f) [] []
  | .global _ => .junk

theorem lookE_mem : ∀ {env : List (Nat × D)} {t : Nat}, lookE env t = .junk ∨ (t, lookE env t) ∈ env
  | [], t => .inl rfl
  | (s, d) :: r, t => by
    unfold lookE
    cases h : Nat.beq s t
    · simp only [Bool.false_eq_true, if_false]
      rcases lookE_mem (env := r) (t := t) with h | h
      · exact .inl h
      · exact .inr (List.mem_cons_of_mem _ h)
    · simp only [if_true]
      rw [Nat.beq_eq] at h
      subst h
      exact .inr (List.mem_cons_self ..)

theorem dropE_mem : ∀ {env : List (Nat × D)} {t s : Nat} {d : D}, (s, d) ∈ dropE env t → (s, d) ∈ env ∧ s ≠ t
  | [], t, s, d, h => by cases h
  | (s', d') :: r, t, s, d, h => by
    unfold dropE at h
    cases hb : Nat.beq s' t
    · simp only [hb, Bool.false_eq_true, if_false] at h
      rcases List.mem_cons.1 h with h | h
      · cases h
        refine ⟨List.mem_cons_self .., fun e => ?_⟩
        subst e
        rw [Nat.beq_refl] at hb
        cases hb
      · exact ⟨List.mem_cons_of_mem _ (dropE_mem h).1, (dropE_mem h).2⟩
    · simp only [hb, if_true] at h
      exact ⟨List.mem_cons_of_mem _ (dropE_mem h).1, (dropE_mem h).2⟩

def updM (μ : Nat → Value) (id : Nat) (u : Value) : Nat → Value := fun i => if i = id then u else μ i
theorem updM_same (μ : Nat → Value) (id : Nat) (u : Value) : updM μ id u id = u := if_pos rfl
theorem updM_other (μ : Nat → Value) {id i : Nat} (u : Value) (h : i ≠ id) : updM μ id u i = μ i := if_neg h

/-- No cell speaks of box id. -/
def freeH (id : Nat) : List Box → Bool
  | [] => true
  | B :: r => Box.free id B && freeH id r
theorem freeH_get {id : Nat} : ∀ {H : List Box} {i : Nat} {B : Box}, freeH id H = true → H[i]? = some B → Box.free id B = true
  | B' :: r, 0, B, h, hm => by
    simp only [freeH, Bool.and_eq_true] at h
    simp at hm
    subst hm
    exact h.1
  | B' :: r, i + 1, B, h, hm => by
    simp only [freeH, Bool.and_eq_true] at h
    exact freeH_get h.2 (by simpa using hm)

def killD (id : Nat) (d : D) : D := if D.free id d then d else .junk
def killE (id : Nat) : List (Nat × D) → List (Nat × D)
  | [] => []
  | (t, d) :: r => (t, killD id d) :: killE id r
def killL (id : Nat) : List D → List D
  | [] => []
  | d :: r => killD id d :: killL id r
def Box.kill (id : Nat) : Box → Box
  | .dead => .dead
  | .var T cs => .var T (killL id cs)
  | .arr E sz enc d l => .arr E sz enc d l
  | .loop l tm nt env ps assign body state pending => .loop l tm nt (killE id env) ps assign body state pending
  | .frame tm env => .frame tm (killE id env)
def killH (id : Nat) : List Box → List Box
  | [] => []
  | B :: r => B.kill id :: killH id r

theorem killD_free (id : Nat) (d : D) : D.free id (killD id d) = true := by
  unfold killD
  cases h : D.free id d
  · rfl
  · simpa using h
theorem killE_free (id : Nat) : ∀ env, freeE id (killE id env) = true
  | [] => rfl
  | (t, d) :: r => by simp [killE, freeE, killD_free, killE_free id r]
theorem killL_free (id : Nat) : ∀ cs, D.freeL id (killL id cs) = true
  | [] => rfl
  | d :: r => by simp [killL, D.freeL, killD_free, killL_free id r]
theorem killH_free (id : Nat) : ∀ H, freeH id (killH id H) = true
  | [] => rfl
  | B :: r => by
    simp only [killH, freeH, killH_free id r, Bool.and_true]
    cases B <;> simp [Box.kill, Box.free, killL_free, killE_free]
theorem killE_mem {id : Nat} : ∀ {env : List (Nat × D)} {t : Nat} {d : D}, (t, d) ∈ killE id env → ∃ e, (t, e) ∈ env ∧ d = killD id e
  | (s, e) :: r, t, d, h => by
    rcases List.mem_cons.1 h with h | h
    · cases h; exact ⟨e, List.mem_cons_self .., rfl⟩
    · obtain ⟨e', h1, h2⟩ := killE_mem h
      exact ⟨e', List.mem_cons_of_mem _ h1, h2⟩
theorem killL_get (id : Nat) : ∀ (cs : List D) (j : Nat), (killL id cs)[j]? = (cs[j]?).map (killD id)
  | [], j => by simp [killL]
  | d :: r, 0 => by simp [killL]
  | d :: r, j + 1 => by simp [killL, killL_get id r j]
theorem killL_length (id : Nat) : ∀ cs, (killL id cs).length = cs.length
  | [] => rfl
  | d :: r => by simp [killL, killL_length id r]
theorem killH_get (id : Nat) : ∀ (H : List Box) (j : Nat), (killH id H)[j]? = (H[j]?).map (Box.kill id)
  | [], j => by simp [killH]
  | d :: r, 0 => by simp [killH]
  | d :: r, j + 1 => by simp [killH, killH_get id r j]
theorem killH_length (id : Nat) : ∀ H, (killH id H).length = H.length
  | [] => rfl
  | d :: r => by simp [killH, killH_length id r]
theorem kill_live (id : Nat) (B : Box) : (B.kill id).live = B.live := by cases B <;> rfl

def St.kill (id : Nat) (st : St) : St := ⟨killE id st.env, killH id st.heap⟩

def setBox (H : List Box) (id : Nat) (B : Box) : List Box := if Nat.beq id H.length then H ++ [B] else H.set id B

theorem setBox_get {H : List Box} {id : Nat} {B : Box} (hid : id ≤ H.length) (i : Nat) : (setBox H id B)[i]? = if i = id then some B else H[i]? := by
  unfold setBox
  cases h : Nat.beq id H.length
  · have hne : id ≠ H.length := fun e => by rw [e, Nat.beq_refl] at h; cases h
    simp only [Bool.false_eq_true, if_false]
    by_cases hi : i = id
    · subst hi
      rw [if_pos rfl, List.getElem?_set_self (by omega)]
    · rw [if_neg hi, List.getElem?_set_ne (fun e => hi e.symm)]
  · simp only [if_true]
    rw [Nat.beq_eq] at h
    subst h
    by_cases hi : i = H.length
    · subst hi
      simp
    · rw [if_neg hi]
      by_cases hl : i < H.length
      · rw [List.getElem?_append_left hl]
      · rw [List.getElem?_eq_none (by simp; omega), List.getElem?_eq_none (by omega)]

section
variable {C : Ctx} {S : Nat → Prop} {μ : Nat → Value} {st : St} {a : Act} {w w' : World}

theorem Rel.eval (h : Rel C S μ st a w) (x : Operand) : DRep S μ w (evD st.env x) (a.eval x) := by
  cases x with
  | tmp t =>
    rcases lookE_mem (env := st.env) (t := t) with h1 | h1
    · simp only [evD]
      rw [h1]
      exact .junk _
    · exact (h.env _ _ h1).2
  | const v => exact DRep.ofVal S μ w v
  | func f => exact .fn _ _ _ #[] #[] rfl (fun j y u hy _ => by simp at hy) rfl (fun j y u hy _ => by simp at hy)
  | global g => exact .junk _

/-- A slot gets a value. -/
theorem Rel.put (h : Rel C S μ st a w) {t : Nat} {d : D} {u : Value} (ht : t < C.nt) (hd : DRep S μ w d u) : Rel C S μ ⟨putE st.env t d, st.heap⟩ (a.put (some t) u) w := by
  refine ⟨h.os, h.tape, h.output, h.size, h.old, h.mono, h.new, h.slt, ?_, h.heap, h.may, h.defers, by simp [Act.put, h.tsize]⟩
  intro s e hm
  rcases List.mem_cons.1 hm with hm | hm
  · cases hm
    refine ⟨ht, ?_⟩
    have : (a.put (some t) u).tmps.getD t undef = u := by
      have hts : t < a.tmps.size := by rw [h.tsize]; exact ht
      simp [Act.put, hts]
    rw [this]
    exact hd
  · obtain ⟨h1, h2⟩ := dropE_mem hm
    obtain ⟨q1, q2⟩ := h.env s e h1
    refine ⟨q1, ?_⟩
    have : (a.put (some t) u).tmps.getD s undef = a.tmps.getD s undef := by
      simp only [Act.put, Array.getD_eq_getD_getElem?]
      rw [Array.getElem?_setIfInBounds_ne (fun e => h2 e.symm)]
    rw [this]
    exact q2

/-- A skipped operation. -/
theorem Rel.putSkip (h : Rel C S μ st a w) (t : Option Nat) : Rel C S μ ⟨(match t with | none => st.env | some t => dropE st.env t), st.heap⟩ (a.put t undef) w := by
  cases t with
  | none => exact h
  | some t =>
    refine ⟨h.os, h.tape, h.output, h.size, h.old, h.mono, h.new, h.slt, ?_, h.heap, h.may, h.defers, by simp [Act.put, h.tsize]⟩
    intro s e hm
    obtain ⟨h1, h2⟩ := dropE_mem hm
    obtain ⟨q1, q2⟩ := h.env s e h1
    refine ⟨q1, ?_⟩
    have : (a.put (some t) undef).tmps.getD s undef = a.tmps.getD s undef := by
      simp only [Act.put, Array.getD_eq_getD_getElem?]
      rw [Array.getElem?_setIfInBounds_ne (fun e => h2 e.symm)]
    rw [this]
    exact q2

/-- Less is known. -/
theorem Rel.weak (h : Rel C S μ st a w) {env : List (Nat × D)} (he : ∀ t d, (t, d) ∈ env → d = .junk ∧ (∃ e, (t, e) ∈ st.env) ∨ (t, d) ∈ st.env) : Rel C S μ ⟨env, st.heap⟩ a w :=
  ⟨h.os, h.tape, h.output, h.size, h.old, h.mono, h.new, h.slt, fun t d hm => by
    rcases he t d hm with ⟨rfl, e, h1⟩ | h1
    · exact ⟨(h.env t e h1).1, .junk _⟩
    · exact h.env t d h1, h.heap, h.may, h.defers, h.tsize⟩

theorem DRep.killD {d : D} {u : Value} {id : Nat} (h : DRep S μ w d u) : DRep S μ w (killD id d) u := by
  unfold Proofs.Ytjmfaebimgnblaa.killD
  split
  · exact h
  · exact .junk _

theorem BoxRel.kill {u : Value} {B : Box} {id : Nat} (h : BoxRel S μ w u B) : BoxRel S μ w u (B.kill id) := by
  cases B with
  | dead => trivial
  | arr E sz enc d l => exact h
  | var T cs =>
    obtain ⟨b, vs, rfl, h1, h2, h3⟩ := h
    refine ⟨b, vs, rfl, h1, by rw [killL_length]; exact h2, fun j y x hy hx => ?_⟩
    rw [killL_get] at hy
    cases hc : cs[j]? with
    | none => rw [hc] at hy; cases hy
    | some e =>
      rw [hc] at hy
      simp only [Option.map_some, Option.some.injEq] at hy
      subst hy
      unfold killD
      split
      · exact h3 j e x hc hx
      · exact .junk _
  | loop l tm nt env ps assign body state pending =>
    obtain ⟨r, rfl, h1, h2, h3, h4, h5, h6, h7, h7', h8⟩ := h
    refine ⟨r, rfl, h1, h2, h3, h4, h5, h6, h7, h7', fun t d hm => ?_⟩
    obtain ⟨e, q1, rfl⟩ := killE_mem hm
    obtain ⟨q2, q3⟩ := h8 t e q1
    refine ⟨q2, ?_⟩
    exact q3.killD
  | frame tm env =>
    obtain ⟨rfl, h8⟩ := h
    refine ⟨rfl, fun t d hm => ?_⟩
    obtain ⟨e, q1, rfl⟩ := killE_mem hm
    obtain ⟨q2, q3⟩ := h8 t e q1
    refine ⟨q2, ?_⟩
    exact q3.killD

theorem Rel.kill (h : Rel C S μ st a w) (id : Nat) : Rel C S μ (st.kill id) a w := by
  have hg : ∀ (i : Nat) (A : Box), (killH id st.heap)[i]? = some A → ∃ B, st.heap[i]? = some B ∧ A = B.kill id := by
    intro i A hA
    rw [killH_get] at hA
    cases hc : st.heap[i]? with
    | none => rw [hc] at hA; cases hA
    | some B => rw [hc] at hA; simp at hA; exact ⟨B, rfl, hA.symm⟩
  refine ⟨h.os, h.tape, h.output, h.size, h.old, h.mono, h.new, h.slt, ?_, ⟨?_, ?_, ?_⟩, ?_, ?_, h.tsize⟩
  · intro t d hm
    obtain ⟨e, h1, rfl⟩ := killE_mem hm
    obtain ⟨q1, q2⟩ := h.env t e h1
    refine ⟨q1, ?_⟩
    unfold killD
    split
    · exact q2
    · exact .junk _
  · intro i A hA
    obtain ⟨B, hB, rfl⟩ := hg i A hA
    exact (h.heap.box i B hB).kill
  · intro i j A B b hA hB la lb
    obtain ⟨A', hA', rfl⟩ := hg i A hA
    obtain ⟨B', hB', rfl⟩ := hg j B hB
    rw [kill_live] at la lb
    exact h.heap.apart i j A' B' b hA' hB' la lb
  · intro i A b hA la
    obtain ⟨A', hA', rfl⟩ := hg i A hA
    rw [kill_live] at la
    exact h.heap.notS i A' b hA' la
  · intro i A b hA la
    obtain ⟨A', hA', rfl⟩ := hg i A hA
    rw [kill_live] at la
    exact h.may i A' b hA' la
  · obtain ⟨mk, d1, d2, d3⟩ := h.defers
    refine ⟨mk, d1, d2, fun b hb => ?_⟩
    obtain ⟨q1, q2, q3, q4⟩ := d3 b hb
    refine ⟨q1, q2, q3, fun i A hA hl => ?_⟩
    obtain ⟨A', hA', rfl⟩ := hg i A hA
    rw [kill_live] at hl
    exact q4 i A' hA' hl

/-- One box turns, or is new; all else stays. -/
theorem Rel.upd {id : Nat} {B : Box} {row : Option Nat} {u : Value} (h : Rel C S μ st a w) (hg : w.grownBy w' row) (hrow : ∀ k, row = some k → ∃ A, st.heap[id]? = some A ∧ A.live = true ∧ blkOf (μ id) = some k)
    (hid : id ≤ st.heap.length) (hbox : BoxRel S (updM μ id u) w' u B) (hblk : ∀ b, blkOf u = some b → row = some b ∨ w.heap.size ≤ b)
    (hfree : (μ id = u ∧ (B.isArr = false ∨ ∃ A, st.heap[id]? = some A ∧ A.isArr = true)) ∨ ((∀ A, st.heap[id]? = some A → A.isArr = true) ∧ freeE id st.env = true ∧ freeH id st.heap = true)) : Rel C S (updM μ id u) ⟨st.env, setBox st.heap id B⟩ a w' := by
  have hSrow : ∀ k, row = some k → ¬ S k := fun k hk => by
    obtain ⟨A, h1, h2, h3⟩ := hrow k hk
    exact h.heap.notS id A k h1 h2 h3
  have hS : ∀ b, S b → w'.heap[b]? = w.heap[b]? := fun b hb => hg.block b (h.slt b hb) (fun e => hSrow b e.symm hb)
  have hμd : ∀ d : D, (μ id = u ∨ D.free id d = true) → ∀ i, d.free i = false → updM μ id u i = μ i := by
    intro d hd i hi
    by_cases e : i = id
    · subst e
      rcases hd with hd | hd
      · rw [updM_same]; exact hd.symm
      · rw [hd] at hi; cases hi
    · exact updM_other _ _ e
  have hBother : ∀ (i : Nat) (A : Box), i ≠ id → st.heap[i]? = some A → A.live = true → ∀ b, blkOf (μ i) = some b → w'.heap[b]? = w.heap[b]? := by
    intro i A hi hA hl b hb
    refine hg.block b ((h.heap.box i A hA).lt hl b hb) (fun e => ?_)
    obtain ⟨A', h1, h2, h3⟩ := hrow b e.symm
    exact hi (h.heap.apart i id A A' b hA h1 hl h2 hb h3)
  refine ⟨hg.os.trans h.os, hg.tape.trans h.tape, hg.output.trans h.output, Nat.le_trans h.size hg.size, ?_, h.mono, h.new, fun b hb => Nat.lt_of_lt_of_le (h.slt b hb) hg.size, ?_, ⟨?_, ?_, ?_⟩, ?_, ?_, h.tsize⟩
  · intro k hk
    rw [hg.block k (Nat.lt_of_lt_of_le hk h.size) (fun e => ?_)]
    · exact h.old k hk
    · obtain ⟨A', h1, h2, h3⟩ := hrow k e.symm
      have h4 := h.may id A' k h1 h2 h3
      omega
  · intro t d hm
    obtain ⟨q1, q2⟩ := h.env t d hm
    exact ⟨q1, q2.stable (fun _ h _ => h) (fun b hb _ => hS b hb) hg.size (hμd d (hfree.imp (fun hf => hf.1) fun hf => freeE_mem hf.2.1 hm))⟩
  · intro i A hA
    rw [setBox_get hid] at hA
    by_cases hi : i = id
    · rw [if_pos hi] at hA
      cases hA
      subst hi
      rw [updM_same]
      exact hbox
    · rw [if_neg hi] at hA
      rw [updM_other _ _ hi]
      cases hl : A.live
      · cases A <;> first | trivial | cases hl
      · refine (h.heap.box i A hA).stable (fun _ h _ => h) (fun b hb _ => hS b hb) hg.size (fun j hj => ?_) (hBother i A hi hA hl)
        by_cases e : j = id
        · subst e
          rcases hfree with hf | hf
          · rw [updM_same]; exact hf.1.symm
          · rw [freeH_get hf.2.2 hA] at hj; cases hj
        · exact updM_other _ _ e
  · intro i j A A' b hA hA' la la' hb hb'
    rw [setBox_get hid] at hA hA'
    have key : ∀ (i j : Nat) (A : Box), i ≠ id → st.heap[i]? = some A → A.live = true → blkOf (μ i) = some b → blkOf u = some b → False := by
      intro i j A hi hA la hb hu
      have hlt := (h.heap.box i A hA).lt la b hb
      rcases hblk b hu with hr | hr
      · obtain ⟨A', h1, h2, h3⟩ := hrow b hr
        exact hi (h.heap.apart i id A A' b hA h1 la h2 hb h3)
      · omega
    by_cases hi : i = id
    · by_cases hj : j = id
      · rw [hi, hj]
      · rw [if_neg hj] at hA'
        rw [updM_other _ _ hj] at hb'
        rw [hi, updM_same] at hb
        exact (key j i A' hj hA' la' hb' hb).elim
    · rw [if_neg hi] at hA
      rw [updM_other _ _ hi] at hb
      by_cases hj : j = id
      · rw [hj, updM_same] at hb'
        exact (key i j A hi hA la hb hb').elim
      · rw [if_neg hj] at hA'
        rw [updM_other _ _ hj] at hb'
        exact h.heap.apart i j A A' b hA hA' la la' hb hb'
  · intro i A b hA la hb hSb
    rw [setBox_get hid] at hA
    by_cases hi : i = id
    · rw [hi, updM_same] at hb
      rcases hblk b hb with hr | hr
      · exact hSrow b hr hSb
      · have := h.slt b hSb; omega
    · rw [if_neg hi] at hA
      rw [updM_other _ _ hi] at hb
      exact h.heap.notS i A b hA la hb hSb
  · intro i A b hA la hb
    rw [setBox_get hid] at hA
    by_cases hi : i = id
    · rw [hi, updM_same] at hb
      rcases hblk b hb with hr | hr
      · obtain ⟨A', h1, h2, h3⟩ := hrow b hr
        exact h.may id A' b h1 h2 h3
      · exact Nat.le_trans h.size hr
    · rw [if_neg hi] at hA
      rw [updM_other _ _ hi] at hb
      exact h.may i A b hA la hb
  · obtain ⟨mk, d1, d2, d3⟩ := h.defers
    refine ⟨mk, d1, d2, fun b hb => ?_⟩
    obtain ⟨q1, q2, q3, q4⟩ := d3 b hb
    have hlt : b < w.heap.size := (Array.getElem?_eq_some_iff.1 q1).1
    have hnr : some b ≠ row := fun e => by
      obtain ⟨A', r1, r2, r3⟩ := hrow b e.symm
      exact q4 id A' r1 r2 r3
    refine ⟨by rw [hg.block b hlt hnr]; exact q1, q2, q3, fun i A hA hl hbi => ?_⟩
    rw [setBox_get hid] at hA
    by_cases hi : i = id
    · rw [hi, updM_same] at hbi
      rcases hblk b hbi with hr | hr
      · exact hnr hr.symm
      · omega
    · rw [if_neg hi] at hA
      rw [updM_other _ _ hi] at hbi
      exact q4 i A hA hl hbi

end
end Go.Proofs.Ytjmfaebimgnblaa
