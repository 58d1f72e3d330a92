/-
  Code on pure data: its rules; and the contract of a function out of its code. Generic: over any program.
-/
import Derived.Test.YtjmfaebimgnblaaAiL
namespace Go.Proofs.Ytjmfaebimgnblaa
open Go.RowKit
set_option linter.unusedVariables false
set_option linter.unusedSimpArgs false

@[reducible] def thenQ (next : St → Prop) (Q : Exit → St → Prop) : Exit → St → Prop
  | .normal, st => next st
  | e, st => Q e st
@[reducible] def blockQ (id : Nat) (Q : Exit → St → Prop) : Exit → St → Prop
  | .exit i, st => if Nat.beq i id then Q .normal st else Q (.exit i) st
  | e, st => Q e st

theorem thenQ_exit {next : St → Prop} {Q : Exit → St → Prop} {i : Nat} {st : St} (h : Q (.exit i) st) : thenQ next Q (.exit i) st := h
theorem blockQ_exit {Q : Exit → St → Prop} {i : Nat} {st : St} (h : Q .normal st) : blockQ i Q (.exit i) st := by
  simp only [blockQ, Nat.beq_refl, if_true]
  exact h
theorem blockQ_normal {Q : Exit → St → Prop} {i : Nat} {st : St} (h : Q .normal st) : blockQ i Q .normal st := h

section
variable {C : Ctx} {st : St} {Q : Exit → St → Prop}

theorem Ev.mono {c : Code} {Q' : Exit → St → Prop} (h : Ev C c Q st) (hq : ∀ e st', Q e st' → Q' e st') : Ev C c Q' st :=
  fun a w S μ hR => wpIn_mono (h a w S μ hR) fun e a' w' ⟨st', S', μ', q, r⟩ => ⟨st', S', μ', hq e st' q, r⟩
theorem Ev.skip (h : Q .normal st) : Ev C .skip Q st := fun a w S μ hR => wpIn_skip ⟨st, S, μ, h, hR⟩
theorem Ev.label {l : Nat} (h : Q .normal st) : Ev C (.label l) Q st := fun a w S μ hR => wpIn_label ⟨st, S, μ, h, hR⟩
theorem Ev.exit {id : Nat} (h : Q (.exit id) st) : Ev C (.exit id) Q st := fun a w S μ hR => wpIn_exit ⟨st, S, μ, h, hR⟩
theorem Ev.ret (h : Q .ret st) : Ev C .ret Q st := fun a w S μ hR => wpIn_ret ⟨st, S, μ, h, hR⟩
theorem Ev.seq {x y : Code} (h : Ev C x (thenQ (Ev C y Q) Q) st) : Ev C (.seq x y) Q st := fun a w S μ hR => by
  refine wpIn_seq (wpIn_mono (h a w S μ hR) ?_)
  rintro e a' w' ⟨st', S', μ', hq, hR'⟩
  cases e with
  | normal => exact hq a' w' S' μ' hR'
  | exit id => exact ⟨st', S', μ', hq, hR'⟩
  | goto l => exact ⟨st', S', μ', hq, hR'⟩
  | ret => exact ⟨st', S', μ', hq, hR'⟩
  | panic ch => exact ⟨st', S', μ', hq, hR'⟩
  | outgrown => exact ⟨st', S', μ', hq, hR'⟩
theorem Ev.cond {c : Operand} {x y : Code} (b : Bool) (hc : evD st.env c = .v (.bool b)) (hx : b = true → Ev C x Q st) (hy : b = false → Ev C y Q st) : Ev C (.cond c x y) Q st := fun a w S μ hR =>
  wpIn_cond_split (t := b) (bool_inv (hc ▸ hR.eval c)) (fun h => hx h a w S μ hR) (fun h => hy h a w S μ hR)
theorem Ev.block {id : Nat} {c : Code} (h : Ev C c (blockQ id Q) st) : Ev C (.block id c) Q st := fun a w S μ hR => by
  refine wpIn_block (wpIn_mono (h a w S μ hR) ?_)
  rintro e a' w' ⟨st', S', μ', hq, hR'⟩
  cases e with
  | exit i =>
    simp only [blockQ] at hq
    simp only [Exit.inBlock]
    by_cases hi : i = id
    · rw [if_pos hi]
      rw [if_pos (by rw [Nat.beq_eq]; exact hi)] at hq
      exact ⟨st', S', μ', hq, hR'⟩
    · rw [if_neg hi]
      rw [if_neg (by rw [Nat.beq_eq]; exact hi)] at hq
      exact ⟨st', S', μ', hq, hR'⟩
  | normal => exact ⟨st', S', μ', hq, hR'⟩
  | goto l => exact ⟨st', S', μ', hq, hR'⟩
  | ret => exact ⟨st', S', μ', hq, hR'⟩
  | panic ch => exact ⟨st', S', μ', hq, hR'⟩
  | outgrown => exact ⟨st', S', μ', hq, hR'⟩

theorem exists_least {R : Nat → Prop} (h : ∃ n, R n) : ∃ n, R n ∧ ∀ m, R m → n ≤ m := by
  obtain ⟨n, hn⟩ := h
  induction n using Nat.strongRecOn with
  | _ n ih =>
    by_cases hm : ∃ m, m < n ∧ R m
    · obtain ⟨m, h1, h2⟩ := hm
      exact ih m h1 h2
    · exact ⟨n, hn, fun m hR => by
        refine Decidable.byContradiction fun hlt => hm ⟨m, by omega, hR⟩⟩

theorem Rel.keep {S : Nat → Prop} {μ : Nat → Value} {a : Act} {w : World} (h : Rel C S μ st a w) (keep : List Nat) : Rel C S μ ⟨keepE keep st.env, st.heap⟩ a w :=
  h.weak (fun t d hm => keepE_mem hm)

/-- The slots 'keep' and the first n boxes alone. -/
def keepS (keep : List Nat) (n : Nat) (st : St) : St := ⟨keepE keep st.env, st.heap.take n⟩

theorem Rel.keepS {S : Nat → Prop} {μ : Nat → Value} {a : Act} {w : World} (h : Rel C S μ st a w) (keep : List Nat) (n : Nat) : Rel C S μ (keepS keep n st) a w :=
  (h.keep keep).heapTo (fun i A hA => .inr (by
    rw [List.getElem?_take] at hA
    split at hA
    · exact hA
    · cases hA))

/-- Less is known. -/
theorem Ev.keep {c : Code} (keep : List Nat) (n : Nat) {st' : St} (h : Proofs.Ytjmfaebimgnblaa.keepS keep n st = st') (he : Ev C c Q st') : Ev C c Q st := fun a w S μ hR => by
  subst h
  exact he a w S μ (hR.keepS keep n)

/-- A loop: its states are 'mk s', of which inv holds, and m goes down; the slots 'keep' are looked at. -/
theorem Ev.loop {σ : Type _} (keep : List Nat) (n : Nat) (mk : σ → St) (inv : σ → Prop) (m : σ → Nat) {c : Code} (s0 : σ) (h0 : Proofs.Ytjmfaebimgnblaa.keepS keep n st = mk s0) (hi : inv s0)
    (round : ∀ s, inv s → Ev C c (thenQ (fun st' => ∃ s', Proofs.Ytjmfaebimgnblaa.keepS keep n st' = mk s' ∧ inv s' ∧ m s' < m s) Q) (mk s)) : Ev C (.loop c) Q st := fun a w S μ hR => by
  have hR0 := hR.keepS keep n
  rw [h0] at hR0
  -- the least measure of a state that fits
  let R : Act → World → Nat → Prop := fun a w n => ∃ (s : σ) (S : Nat → Prop) (μ : Nat → Value), inv s ∧ m s = n ∧ Rel C S μ (mk s) a w
  let M : Act → World → Nat := fun a w => @dite _ (∃ n, R a w n) (Classical.propDecidable _) (fun h => Classical.choose (exists_least h)) (fun _ => 0)
  have hM : ∀ a w, (∃ n, R a w n) → R a w (M a w) ∧ ∀ n, R a w n → M a w ≤ n := by
    intro a w h
    have : M a w = Classical.choose (exists_least h) := dif_pos h
    rw [this]
    exact Classical.choose_spec (exists_least h)
  refine wpIn_loop (fun a w => ∃ n, R a w n) M ⟨m s0, s0, S, μ, hi, rfl, hR0⟩ ?_
  intro a w hI
  obtain ⟨⟨s, S', μ', h1, h2, h3⟩, _⟩ := hM a w hI
  refine wpIn_mono (round s h1 a w S' μ' h3) ?_
  rintro e a' w' ⟨st', S2, μ2, hq, hR'⟩
  cases e with
  | normal =>
    obtain ⟨s', hk, q1, q2⟩ := hq
    have hR2 := hR'.keepS keep n
    rw [hk] at hR2
    have hex : ∃ n, R a' w' n := ⟨m s', s', S2, μ2, q1, rfl, hR2⟩
    refine ⟨hex, ?_⟩
    have := (hM a' w' hex).2 (m s') ⟨s', S2, μ2, q1, rfl, hR2⟩
    omega
  | exit id => exact ⟨st', S2, μ2, hq, hR'⟩
  | goto l => exact ⟨st', S2, μ2, hq, hR'⟩
  | ret => exact ⟨st', S2, μ2, hq, hR'⟩
  | panic ch => exact ⟨st', S2, μ2, hq, hR'⟩
  | outgrown => exact ⟨st', S2, μ2, hq, hR'⟩

/-- Ways that meet again: the states behind x are 'mk s', of which inv holds. -/
theorem Ev.cut {σ : Type _} (keep : List Nat) (n : Nat) (mk : σ → St) (inv : σ → Prop) {x y : Code} (hx : Ev C x (thenQ (fun st' => ∃ s, Proofs.Ytjmfaebimgnblaa.keepS keep n st' = mk s ∧ inv s) Q) st) (hy : ∀ s, inv s → Ev C y Q (mk s)) : Ev C (.seq x y) Q st :=
  Ev.seq (hx.mono (fun e st' hq => by
    cases e with
    | normal =>
      obtain ⟨s, h1, h2⟩ := hq
      exact Ev.keep keep n h1 (hy s h2)
    | exit id => exact hq
    | goto l => exact hq
    | ret => exact hq
    | panic ch => exact hq
    | outgrown => exact hq))

/-- What a region makes of a state: its operations in the order of the text; then only the slots 'keep' are kept. -/
def regR (P : Program) (nt : Nat) (ops : List Oper) (ovs : List (Nat × Ov)) (keep : List Nat) (st : St) : R2 :=
  match seqOps P nt ops ovs 0 ops st with
  | (st1, p) => (⟨keepE keep st1.env, st1.heap⟩, p)

/-- A region that does not draw. -/
theorem Ev.reg {id : Nat} {ops : List Oper} (ovs : List (Nat × Ov)) (keep : List Nat) {st' : St} {p : Prop} (h : regR C.P C.nt ops ovs keep st = (st', p)) (hp : p) (hq : Q .normal st') : Ev C (.region id ops.toArray false) Q st := fun a w S μ hR => by
  unfold regR at h
  generalize hs : seqOps C.P C.nt ops ovs 0 ops st = s at h
  obtain ⟨st1, q⟩ := s
  simp only [Prod.mk.injEq] at h
  obtain ⟨rfl, rfl⟩ := h
  refine wpIn_region_lit (seqOps_sound ops 0 st S μ a w q hR hs hp (fun S' μ' a' w' hR' => ⟨_, S', μ', hq, hR'.keep keep⟩))

end

/-! Results. -/

def V.scal : V → Bool
  | .sl _ _ _ _ => false
  | _ => true

/-- The result lies in new memory. -/
def frC : D → D → Prop
  | .own _, .v (.sl _ enc _ l) => ∀ z ∈ l, (enc z).all V.scal = true
  | _, .v (.sl _ _ _ l) => l = []
  | _, .v _ => True
  | _, .nils => True
  | _, _ => False
def frL : List D → List D → Prop
  | [], [] => True
  | x :: xs, y :: ys => frC x y ∧ frL xs ys
  | _, _ => False
def frD : D → D → Prop
  | .agg xs, .agg ys => frL xs ys
  | x, y => frC x y
def frA : List D → List D → Prop
  | [], [] => True
  | x :: xs, y :: ys => frD x y ∧ frA xs ys
  | _, _ => False

/-- The result x of the call, as the contract tells of it: y. -/
def retD (al : Bool) (H : List Box) : D → D → Prop
  | .tup xs, .tup ys => coA H xs ys ∧ (al = true ∨ frA xs ys)
  | x, y => coD H x y ∧ (al = true ∨ frD x y)

section
variable {P : Program} {S : Nat → Prop} {μ : Nat → Value} {w : World}

theorem scal_rep {x : V} {u : Value} (h : Rep S w x u) (hs : x.scal = true) (S' : Nat → Prop) : Rep S' w x u := by
  cases h with
  | int => exact .int _ _
  | bool => exact .bool _
  | str => exact .str _
  | nil => cases hs
  | row => cases hs

theorem fresh_rep {sz : Nat} {α : Type} {enc : α → List V} {d : α} {l : List α} {u : Value} {S' : Nat → Prop} (h : Rep S w (.sl sz enc d l) u) (hs : ∀ z ∈ l, (enc z).all V.scal = true) (hb : ∀ b, blkOf u = some b → S' b) : Rep S' w (.sl sz enc d l) u := by
  obtain ⟨p, c, rfl, h1, h2, h3, h4⟩ := row_inv h
  refine row_mk rfl h1 h2 h3 (fun h0 => ?_)
  obtain ⟨b, off, us, rfl, q1, q2, q3, q4, q5⟩ := h4 h0
  refine ⟨b, off, us, rfl, hb b rfl, q2, q3, q4, fun i x j y hx hy => scal_rep (q5 i x j y hx hy) ?_ S'⟩
  have := hs x (List.mem_of_getElem? hx)
  rw [List.all_eq_true] at this
  exact this y (List.mem_of_getElem? hy)

theorem frC_rep {H : List Box} {S' : Nat → Prop} (hH : HeapRel S μ w H) (hslt : ∀ b, S b → b < w.heap.size) {x y : D} (hown : ∀ (i : Nat) (A : Box) (b : Nat), H[i]? = some A → A.isArr = true → blkOf (μ i) = some b → S' b)
    {u : Value} (he : coC H x y) (hf : frC x y) (h : DRep S μ w x u) : DRep S' μ w y u := by
  have h2 : DRep (fun b => S b ∨ S' b) μ w y u := coC_rep hH (fun b hb => .inl hb) hslt (.inl fun i A b h1 h2 h3 => .inr (hown i A b h1 h2 h3)) he h
  unfold frC at hf
  split at hf
  · rename_i id sz α enc d l
    refine .v _ _ (fresh_rep (sl_inv h2) hf ?_)
    unfold coC at he
    simp only at he
    split at he
    · rename_i E sz' β enc' d' l' hb
      rw [own_inv h]
      exact fun b hb' => hown id _ b hb rfl hb'
    · exact he.elim
  · subst hf
    obtain ⟨p, c, rfl, h1, h3, h4, h5⟩ := row_inv (sl_inv h2)
    exact .v _ _ (.nil _ _ _ _ _ h3 h4)
  · rename_i v h3 h4
    refine .v _ _ (scal_rep (sl_inv h2) ?_ _)
    cases v with
    | sl sz enc d l => exact (h3 _ _ _ _ _ rfl).elim
    | int => rfl
    | bool => rfl
    | str => rfl
  · cases h2
    exact .nils
  · exact hf.elim

theorem frL_inv : ∀ {xs ys : List D}, frL xs ys → ∀ (j : Nat) (x y : D), xs[j]? = some x → ys[j]? = some y → frC x y
  | [], [], _, j, x, y, hx, _ => by simp at hx
  | [], _ :: _, h, _, _, _, _, _ => h.elim
  | _ :: _, [], h, _, _, _, _, _ => h.elim
  | x :: xs, y :: ys, h, 0, _, _, hx, hy => by simp at hx hy; subst hx hy; exact h.1
  | x :: xs, y :: ys, h, j + 1, x', y', hx, hy => frL_inv h.2 j x' y' (by simpa using hx) (by simpa using hy)
theorem frA_inv : ∀ {xs ys : List D}, frA xs ys → ∀ (j : Nat) (x y : D), xs[j]? = some x → ys[j]? = some y → frD x y
  | [], [], _, j, x, y, hx, _ => by simp at hx
  | [], _ :: _, h, _, _, _, _, _ => h.elim
  | _ :: _, [], h, _, _, _, _, _ => h.elim
  | x :: xs, y :: ys, h, 0, _, _, hx, hy => by simp at hx hy; subst hx hy; exact h.1
  | x :: xs, y :: ys, h, j + 1, x', y', hx, hy => frA_inv h.2 j x' y' (by simpa using hx) (by simpa using hy)

/-- A value of the result, in words that need no box. -/
theorem retD1_rep {al : Bool} {H : List Box} {S' Sn : Nat → Prop} (hH : HeapRel S μ w H) (hslt : ∀ b, S b → b < w.heap.size) (hS : ∀ b, S b → S' b)
    (hown' : ∀ (i : Nat) (A : Box) (b : Nat), H[i]? = some A → A.isArr = true → blkOf (μ i) = some b → S' b) (hown : ∀ (i : Nat) (A : Box) (b : Nat), H[i]? = some A → A.isArr = true → blkOf (μ i) = some b → Sn b)
    (hal : al = true → ∀ b, S' b → Sn b) {x y : D} {u : Value} (he : coD H x y) (hf : al = true ∨ frD x y) (h : DRep S μ w x u) : DRep Sn μ w y u := by
  rcases hf with hf | hf
  · have : DRep S' μ w y u := by
      have h1 : RepsA S' μ w [y] #[u] := coA_rep (ds := [x]) hH hS hslt (.inl hown') ⟨he, trivial⟩ ⟨rfl, fun j a b ha hb => by
        cases j with
        | zero => simp at ha hb; subst ha hb; exact h
        | succ j => simp at ha⟩
      exact h1.2 0 y u rfl rfl
    exact this.stable (fun b hb _ => hal hf b hb) (fun _ _ _ => rfl) (Nat.le_refl _) (fun _ _ => rfl)
  · unfold coD at he
    split at he
    · rename_i xs ys
      obtain ⟨us, rfl, q1, q2⟩ := agg_inv h
      obtain ⟨r1, r2⟩ := coL_inv he
      refine .agg _ _ (by rw [← r1]; exact q1) (fun k z v hz hv => ?_)
      obtain ⟨x', hx1, hx2⟩ := r2 k z hz
      exact frC_rep hH hslt hown hx2 (frL_inv hf k x' z hx1 hz) (q2 k x' v hx1 hv)
    · rename_i hne
      have hf' : frC x y := by
        unfold frD at hf
        split at hf
        · rename_i xs ys
          exact (hne xs ys rfl rfl).elim
        · exact hf
      exact frC_rep hH hslt hown he hf' h

theorem retD_rep {al : Bool} {H : List Box} {S' Sn : Nat → Prop} (hH : HeapRel S μ w H) (hslt : ∀ b, S b → b < w.heap.size) (hS : ∀ b, S b → S' b)
    (hown' : ∀ (i : Nat) (A : Box) (b : Nat), H[i]? = some A → A.isArr = true → blkOf (μ i) = some b → S' b) (hown : ∀ (i : Nat) (A : Box) (b : Nat), H[i]? = some A → A.isArr = true → blkOf (μ i) = some b → Sn b)
    (hal : al = true → ∀ b, S' b → Sn b) {x y : D} {u : Value} (he : retD al H x y) (h : DRep S μ w x u) : DRep Sn μ w y u := by
  unfold retD at he
  split at he
  · rename_i xs ys
    obtain ⟨us, rfl, q1, q2⟩ := tup_inv h
    obtain ⟨r1, r2⟩ := coA_inv he.1
    refine .tup _ _ (by rw [← r1]; exact q1) (fun k z v hz hv => ?_)
    obtain ⟨x', hx1, hx2⟩ := r2 k z hz
    exact retD1_rep hH hslt hS hown' hown hal hx2 (he.2.imp id fun hf => frA_inv hf k x' z hx1 hz) (q2 k x' v hx1 hv)
  · exact retD1_rep hH hslt hS hown' hown hal he.1 he.2 h

/-- How a call may end. -/
def endQ (P : Program) (fn : Func) (al : Bool) (r : D) : Exit → St → Prop
  | .normal, st => resOk P fn st ∧ retD al st.heap (resV P fn st) r
  | .ret, st => resOk P fn st ∧ retD al st.heap (resV P fn st) r
  | _, _ => False

/-- THE CONTRACT OF A FUNCTION that is handed no box, out of its code. -/
theorem CallOk.of_ev {f : FuncId} {fn : Func} {c : Code} {as : List D} {al : Bool} {r : D} (hf : P.funcs[f]? = some fn) (hb : fn.body = some c) (hn : Nat.ble as.length fn.ntmps = true) (hr : noRef r = true)
    (h : ∀ C : Ctx, C.P = P → C.nt = fn.ntmps → C.rd = none → Ev C c (endQ P fn al r) ⟨argsE 0 as, []⟩) : CallOk P f as [] al r [] := by
  intro S μ w us hS hH hus
  rw [Nat.ble_eq] at hn
  let C : Ctx := ⟨P, w, S, fn.ntmps, [], none⟩
  have hrel : Rel C S μ ⟨argsE 0 as, []⟩ (actOf us fn.ntmps) w :=
    ⟨rfl, rfl, rfl, Nat.le_refl _, fun _ _ => rfl, fun _ h => h, fun _ h => .inl h, hS, act_env hus hn, ⟨fun id B hB => by simp at hB, fun i j A B b hA => by simp at hA, fun i A b hA => by simp at hA⟩, fun i A b hA => by simp at hA, ⟨[], rfl, by simp [C], fun b hb => by simp [C] at hb⟩, act_size hus.1 hn⟩
  refine (calls_of_ev (C := C) hf hb rfl hrel (h C rfl rfl rfl) (fun e st' hq => ?_)).mono ?_
  · cases e <;> first | exact ⟨.inl rfl, hq.1⟩ | exact ⟨.inr rfl, hq.1⟩ | exact hq.elim
  rintro e w' ⟨u, e0, st', S', μ', a', rfl, hq, hR, hx⟩
  have hq : retD al st'.heap (resV P fn st') r := by
    cases e0 <;> first | exact hq.2 | exact hq.elim
  refine ⟨u, μ', fun b => S' b ∨ ∃ (i : Nat) (A : Box), st'.heap[i]? = some A ∧ A.isArr = true ∧ blkOf (μ' i) = some b, rfl, hR.os, hR.tape, hR.output, hR.size, fun k hk _ => hR.old k hk, fun b hb => .inl (hR.mono b hb), ?_, ?_, ?_,
      ⟨fun id B hB => by simp at hB, fun i j A B b hA => by simp at hA, fun i A b hA => by simp at hA⟩, fun i A b hA => by simp at hA, fun i A hA => by simp at hA⟩
  · rintro b (hb | ⟨i, A, h1, h2, h3⟩)
    · exact hR.new b hb
    · exact .inr (hR.may i A b h1 (by cases A <;> first | rfl | cases h2) h3)
  · rintro b (hb | ⟨i, A, h1, h2, h3⟩)
    · exact hR.slt b hb
    · exact (hR.heap.box i A h1).lt (by cases A <;> first | rfl | cases h2) b h3
  · refine retD_rep hR.heap hR.slt (S' := fun b => S' b ∨ ∃ (i : Nat) (A : Box), st'.heap[i]? = some A ∧ A.isArr = true ∧ blkOf (μ' i) = some b) (fun b hb => .inl hb) (fun i A b h1 h2 h3 => .inr ⟨i, A, h1, h2, h3⟩) (fun i A b h1 h2 h3 => ⟨.inr ⟨i, A, h1, h2, h3⟩, .inr ?_⟩) (fun ha b hb => ⟨hb, .inl ha⟩) hq hx
    exact hR.may i A b h1 (by cases A <;> first | rfl | cases h2) h3

end

/-! A range over a function. -/

def pendE : Option Code → Option Exit
  | none => some .normal
  | some .ret => some .ret
  | some (.exit i) => some (.exit i)
  | _ => none
def isBusy : LoopState → Bool
  | .busy => true
  | _ => false

/-- How the function that is ranged over ends: the loop's box is id. -/
def rangeQ (id l nt : Nat) (tm : Array Value) (Q : Exit → St → Prop) : Exit → St → Prop := fun e st =>
  (e = .normal ∨ e = .ret) ∧ match st.heap[id]? with
    | some (.loop l' tm' nt' env _ _ _ s p) => l' = l ∧ tm' = tm ∧ nt' = nt ∧ isBusy s = false ∧ match pendE p with
      | some e' => Q e' ⟨env, st.heap.set id .dead⟩
      | none => False
    | _ => False

section
variable {C : Ctx} {st : St} {Q : Exit → St → Prop}

theorem Ev.range {g : Operand} {ps : List Nat} {assign body : Code} {gid : FuncId} {first cap : List D} {fn : Func} {c : Code} (hrd : C.rd = none) (hg : evD st.env g = .fn (.func gid) first cap) (hf : C.P.funcs[gid]? = some fn) (hb : fn.body = some c)
    (hgo : isGoF C.P gid = true) (hn : Nat.ble (first.length + 1 + cap.length) fn.ntmps = true) (hres : fn.results.toList = []) (hfe : freeE st.heap.length st.env = true) (hfh : freeH st.heap.length st.heap = true)
    (h : ∀ (C1 : Ctx) (l : Nat) (tm : Array Value) (asg bd : Code), asg = assign → bd = body → C1.P = C.P → C1.nt = fn.ntmps → C1.rd = none → Ev C1 c (rangeQ st.heap.length l C.nt tm Q) ⟨argsE 0 (first ++ [.yld st.heap.length] ++ cap), st.heap ++ [.loop l tm C.nt st.env ps asg bd .ready none]⟩) :
    Ev C (.rangeFunc g ps.toArray assign body) Q st := by
  intro a w S μ hR
  rw [Nat.ble_eq] at hn
  have hfen : fen C.rd = Fence.wide := by rw [hrd]; rfl
  rw [hfen]
  refine wpIn_rangeFunc (fun fnid _ => ?_)
  -- the new world
  let w1 := (w.alloc (.deferred (some []))).alloc (.loop { state := .ready, pending := none, fn := fnid, tmps := a.tmps, params := ps.toArray, assign := assign, body := body, defers := w.heap.size })
  have hsz1 : w1.heap.size = w.heap.size + 2 := by
    show ((w.heap.push _).push _).size = _
    simp
  have hgrown : w.grownBy w1 none := ⟨rfl, rfl, rfl, by omega, fun k hk _ => by
    show ((w.heap.push _).push _)[k]? = _
    rw [Array.getElem?_push, if_neg (by simp; omega), Array.getElem?_push, if_neg (by omega)]⟩
  have hb0 : w1.heap[w.heap.size]? = some (.deferred (some [])) := by
    show ((w.heap.push _).push _)[w.heap.size]? = _
    rw [Array.getElem?_push, if_neg (by simp), Array.getElem?_push, if_pos rfl]
  have hl0 : w1.heap[w.heap.size + 1]? = some (.loop { state := .ready, pending := none, fn := fnid, tmps := a.tmps, params := ps.toArray, assign := assign, body := body, defers := w.heap.size }) := by
    show ((w.heap.push _).push _)[w.heap.size + 1]? = _
    rw [Array.getElem?_push, if_pos (by simp)]
  have h1 := hR.upd (id := st.heap.length) (B := .loop (w.heap.size + 1) a.tmps C.nt st.env ps assign body .ready none) (row := none) (u := .pointer (some ⟨w.heap.size + 1, 0, none⟩)) hgrown (fun k hk => by cases hk) (Nat.le_refl _)
    ⟨_, rfl, hl0, rfl, rfl, rfl, rfl, rfl, rfl, hR.tsize, fun t d hm => ?_⟩ (fun b hb => by simp [blkOf] at hb; exact .inr (by omega)) (.inr ⟨fun A hA => by simp at hA, hfe, hfh⟩)
  rotate_left
  · obtain ⟨q1, q2⟩ := hR.env t d hm
    refine ⟨q1, q2.stable (fun _ h _ => h) (fun b hb hl => hgrown.block b hl (by simp)) hgrown.size (fun i hi => updM_other _ _ (fun e => ?_))⟩
    subst e
    rw [freeE_mem hfe hm] at hi
    cases hi
  rw [show setBox st.heap st.heap.length (.loop (w.heap.size + 1) a.tmps C.nt st.env ps assign body .ready none) = st.heap ++ [.loop (w.heap.size + 1) a.tmps C.nt st.env ps assign body .ready none] from by simp [setBox]] at h1
  obtain ⟨mk, d1, d2, d3⟩ := h1.defers
  have hWle : C.W.heap.size ≤ w.heap.size := hR.size
  have hlive : ∀ (i : Nat) (A : Box) (b : Nat), (st.heap ++ [Box.loop (w.heap.size + 1) a.tmps C.nt st.env ps assign body .ready none])[i]? = some A → A.live = true → blkOf (updM μ st.heap.length (.pointer (some ⟨w.heap.size + 1, 0, none⟩)) i) = some b → b ≠ w.heap.size := by
    intro i A b hA hl hb e
    by_cases hi : i < st.heap.length
    · rw [List.getElem?_append_left hi] at hA
      rw [updM_other _ _ (by omega)] at hb
      have := (hR.heap.box i A hA).lt hl b hb
      omega
    · have hi2 : i = st.heap.length := by
        have := (List.getElem?_eq_some_iff.1 hA).1
        simp at this
        omega
      subst hi2
      rw [updM_same] at hb
      simp only [blkOf, Option.some.injEq] at hb
      omega
  have hnew : ∀ b ∈ (w.heap.size :: mk) ++ C.susp, w1.heap[b]? = some (.deferred (some [])) ∧ C.W.heap.size ≤ b ∧ ¬ S b ∧ ∀ (i : Nat) (A : Box), (st.heap ++ [Box.loop (w.heap.size + 1) a.tmps C.nt st.env ps assign body .ready none])[i]? = some A → A.live = true → blkOf (updM μ st.heap.length (.pointer (some ⟨w.heap.size + 1, 0, none⟩)) i) ≠ some b := by
    intro b hb
    rw [List.cons_append] at hb
    rcases List.mem_cons.1 hb with rfl | hb
    · exact ⟨hb0, hWle, fun hS => by have := hR.slt _ hS; omega, fun i A hA hl hbk => hlive i A _ hA hl hbk rfl⟩
    · exact d3 b hb
  have hnd : ((w.heap.size :: mk) ++ C.susp).Nodup := by
    rw [List.cons_append]
    refine List.nodup_cons.2 ⟨fun hm => ?_, d2⟩
    obtain ⟨mk0, e1, e2, e3⟩ := hR.defers
    have : mk = mk0 := by
      have : mk.map colOf = mk0.map colOf := by
        have x1 : a.defers = mk.map colOf := d1
        have x2 : a.defers = mk0.map colOf := e1
        rw [← x1, x2]
      exact List.map_inj_right (fun x y hxy => by simpa [colOf] using hxy) |>.1 this
    subst this
    have := (Array.getElem?_eq_some_iff.1 (e3 _ hm).1).1
    omega
  -- the call
  have hrep : ∃ us vs, a.eval g = .func (.func gid) us vs ∧ RepsA S (updM μ st.heap.length (.pointer (some ⟨w.heap.size + 1, 0, none⟩))) w1 (first ++ [.yld st.heap.length] ++ cap) (us ++ #[.func (.yield (w.heap.size + 1)) #[] #[]] ++ vs) := by
    have hgv : DRep S _ w1 (.fn (.func gid) first cap) (a.eval g) := hg ▸ h1.eval g
    generalize a.eval g = ug at hgv
    cases hgv with
    | fn _ _ _ us vs q1 q2 q3 q4 =>
      refine ⟨us, vs, rfl, RepsA.app (RepsA.app ⟨q1, q2⟩ ⟨rfl, fun j y u hy hu => ?_⟩) ⟨q3, q4⟩⟩
      cases j with
      | zero =>
        simp at hy hu
        subst hy hu
        exact .yld _ _ (by rw [updM_same]; rfl)
      | succ j => simp at hy
  obtain ⟨us, vs, hge, hrep⟩ := hrep
  have hlen : (first ++ [D.yld st.heap.length] ++ cap).length ≤ fn.ntmps := by simp; omega
  let C1 : Ctx := ⟨C.P, C.W, C.S0, fn.ntmps, (w.heap.size :: mk) ++ C.susp, none⟩
  have hR1 : Rel C1 S _ ⟨argsE 0 (first ++ [.yld st.heap.length] ++ cap), st.heap ++ [.loop (w.heap.size + 1) a.tmps C.nt st.env ps assign body .ready none]⟩ (actOf (us ++ #[.func (.yield (w.heap.size + 1)) #[] #[]] ++ vs) fn.ntmps) w1 :=
    h1.turn (C1 := C1) (mk := mk) (mk1 := []) hnd hnew rfl rfl rfl (act_size hrep.1 hlen) (act_env hrep hlen)
  refine ⟨w.heap.size + 1, [{ target := .collected w.heap.size, args := #[] }], w1, { target := .fn (.func gid) vs, args := us ++ #[.func (.yield (w.heap.size + 1)) #[] #[]] }, w1, gid, us ++ #[.func (.yield (w.heap.size + 1)) #[] #[]] ++ vs, w1, run_enterLoop_outer fnid a.tmps ps.toArray assign body, ?_, fun _ _ => trivial, ?_, fun hx => (by cases hx), ?_⟩
  · show (Deferred.ofValue (a.eval g) (#[Operand.const (.func (.yield (w.heap.size + 1)) #[] #[])].map a.eval)).run C.P w1 = _
    rw [hge]
    simp [Deferred.ofValue, Act.eval]
  · simp [invoke, run_callFunc' hgo]
  refine callsIn_wide.2 ((calls_of_ev (C := C1) hf hb rfl hR1 (h C1 (w.heap.size + 1) a.tmps assign body rfl rfl rfl rfl rfl) (fun e st' hq => ⟨hq.1, by unfold resOk; rw [hres]; trivial⟩)).mono ?_)
  rintro e w' ⟨u, e0, st', S', μ', a', rfl, hq, hR2, _⟩
  obtain ⟨_, hq⟩ := hq
  split at hq
  · rename_i l2 tm2 nt2 env2 ps2 as2 bd2 s2 p2 hbx
    obtain ⟨rfl, rfl, rfl, hbusy, hq⟩ := hq
    obtain ⟨r2, n1, n2, n3, n4, n5, n6, n7, n8, h4⟩ := hR2.loopTo hbx .exhausted p2
    have hst : r2.state ≠ .busy := fun e => by rw [n2] at e; rw [e] at hbusy; cases hbusy
    have hend : (Instr.endLoop (w.heap.size + 1)).run C.P w' = .ok p2 (w'.putObj (w.heap.size + 1) (.loop { r2 with state := .exhausted, pending := p2 })) := by
      rw [run_endLoop n1 hst, ← n3]
    have hid : st.heap.length < st'.heap.length := (List.getElem?_eq_some_iff.1 hbx).1
    obtain ⟨_, _, _, _, _, _, _, _, _, _, henv⟩ := h4.heap.box st.heap.length _ (List.getElem?_set_self hid)
    have hb2 := h4.back (C := C) (a := { a with defers := [{ target := .collected w.heap.size, args := #[] }] ++ a.defers }) (mk := w.heap.size :: mk) rfl rfl rfl (by simp [d1]) hR.tsize (env := env2) henv
    have hc2 := hb2.heapTo (H := st'.heap.set st.heap.length .dead) (fun i B hB => by
      by_cases hi : i = st.heap.length
      · subst hi
        rw [List.getElem?_set_self hid] at hB
        cases hB
        exact .inl rfl
      · rw [List.getElem?_set_ne (fun e => hi e.symm)] at hB
        refine .inr ?_
        rw [List.getElem?_set_ne (fun e => hi e.symm)]
        exact hB)
    refine ⟨p2, _, hend, ?_⟩
    cases p2 with
    | none => exact ⟨_, _, _, hq, hc2⟩
    | some c2 =>
      cases c2 <;> first | exact hq.elim | skip
      · exact wpIn_exit ⟨_, _, _, hq, hc2⟩
      · exact wpIn_ret ⟨_, _, _, hq, hc2⟩
  · exact hq.elim

end
theorem rangeQ.of {id l nt : Nat} {tm : Array Value} {Q : Exit → St → Prop} {e e' : Exit} {st : St} {env : List (Nat × D)} {ps : List Nat} {asg bd : Code} {s : LoopState} {p : Option Code} {st' : St} (he : e = .normal ∨ e = .ret)
    (hb : st.heap[id]? = some (.loop l tm nt env ps asg bd s p)) (hs : isBusy s = false) (hp : pendE p = some e') (hst : (⟨env, st.heap.set id .dead⟩ : St) = st') (hq : Q e' st') : rangeQ id l nt tm Q e st := by
  refine ⟨he, ?_⟩
  rw [hb]
  refine ⟨rfl, rfl, rfl, hs, ?_⟩
  rw [hp]
  subst hst
  exact hq

theorem roundQ.of {id l nt : Nat} {tm : Array Value} {b : Bool} {H : List Box} {e : Exit} {st : St} {env : List (Nat × D)} {ps : List Nat} {asg bd : Code} {s : LoopState} {p : Option Code}
    (hb : st.heap[id]? = some (.loop l tm nt env ps asg bd s p)) (ha : endAns e = some b) (hH : (st.heap.set id (.loop l tm nt env ps asg bd (endState e) (endPend e))).take H.length = H) : roundQ id l b H e st := by
  unfold roundQ
  rw [hb]
  exact ⟨rfl, ha, hH⟩

theorem beginQ.of {C : Ctx} {body : Code} {id l : Nat} {b : Bool} {H : List Box} {st st' : St} {tm : Array Value} {nt : Nat} {env : List (Nat × D)} {ps : List Nat} {asg bd : Code}
    (hb : st.heap[id]? = some (.loop l tm nt env ps asg bd .ready none)) (hst : (⟨st.env, st.heap.set id (.loop l tm nt env ps asg bd .busy none)⟩ : St) = st') (h : Ev C body (roundQ id l b H) st') : beginQ C body id l b H .normal st := by
  simp only [beginQ]
  rw [hb]
  subst hst
  exact ⟨rfl, h⟩

/-- The same code under another name. -/
theorem Ev.named {C : Ctx} {st : St} {Q : Exit → St → Prop} {c c' : Code} (h : c' = c) (he : Ev C c Q st) : Ev C c' Q st := by rw [h]; exact he

end Go.Proofs.Ytjmfaebimgnblaa
