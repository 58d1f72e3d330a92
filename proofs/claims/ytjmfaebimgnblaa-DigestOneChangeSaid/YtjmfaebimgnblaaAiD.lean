/-
  All operations that leave memory alone, in one word: what they compute, and that their runs compute that. Generic: over any program.
-/
import Derived.Test.YtjmfaebimgnblaaAiC
namespace Go.Proofs.Ytjmfaebimgnblaa
open Go.RowKit
set_option linter.unusedVariables false
set_option linter.unusedSimpArgs false

/-- The cells of a value. -/
def cellsD (H : List Box) : D → Option (List D)
  | .agg cs => some cs
  | .tup _ => none
  | .junk => none
  | .own id => match H[id]? with | some (.arr _ _ _ _ _) => some [.own id] | _ => none
  | d => some [d]

def splice (cs new : List D) (off : Nat) : List D := cs.take off ++ new ++ cs.drop (off + new.length)

/-- Parts laid over zero cells. -/
def fillD (H : List Box) (place : Nat → Option (Nat × Nat)) (cells : List D) : List (Nat × D) → Option (List D)
  | [] => some cells
  | (i, x) :: rest => match place i, cellsD H x with
    | some (off, size), some new => if Nat.beq new.length size && Nat.ble (off + new.length) cells.length then fillD H place (splice cells new off) rest else none
    | _, _ => none

def zeroD (P : Program) (t : TypeId) : Option (List D) := ((P.info? t).bind (·.zero)).map fun z => z.cells.toList.map D.ofVal1

def pBuild (P : Program) (H : List Box) (t : TypeId) (parts : List (Nat × D)) : R1 :=
  match zeroD P t, P.underlying t with
  | some z, some (.struct fs) => if fs.all (fun f => known P f.type) then
      match fillD H (fun i => (fs[i]?).map fun f => (f.offset, szOf P f.type)) z parts with
      | some cs => (.agg cs, True)
      | none => fail1
    else fail1
  | some z, some (.array _ e) => if known P e then
      match fillD H (fun i => some (i * szOf P e, szOf P e)) z parts with
      | some cs => (.agg cs, True)
      | none => fail1
    else fail1
  | _, _ => fail1

def mmD (f : Int → Int → Int) (x y : D) : R1 :=
  match x, y with
  | .v (.int k a), .v (.int _ b) => (.v (.int k (f a b)), True)
  | _, _ => fail1

def pPick (c a b : D) : R1 :=
  match c with
  | .v (.bool t) => (match t with | true => a | false => b, True)
  | _ => fail1

def pNil : D → R1
  | .ptr id i sz off => (.ptr id i sz off, True)
  | .iptr cs off => (.iptr cs off, True)
  | .fn (.func f) a b => (.fn (.func f) a b, True)
  | .yld id => (.yld id, True)
  | _ => fail1

def pExtract (x : D) (i : Nat) : R1 :=
  match x with
  | .tup cs => if Nat.blt i cs.length then (cs.getD i .junk, True) else fail1
  | _ => fail1

def opPure (P : Program) (H : List Box) (ρ : Operand → D) (op : Op) : R1 :=
  match op with
  | .move x => (ρ x, True)
  | .assign x => (ρ x, True)
  | .pick c a b => pPick (ρ c) (ρ a) (ρ b)
  | .load t a => pLoad P t H (ρ a)
  | .nilCheck x => pNil (ρ x)
  | .binOp op t x y _ => pBin P op t (ρ x) (ρ y)
  | .unOp op _ x => pUn op (ρ x)
  | .convert src dst x => pConv P src dst (ρ x)
  | .makeFunc fn first cap => (.fn fn (first.toList.map ρ) (cap.toList.map ρ), True)
  | .slice t x lo hi mx => pSlice P t (ρ x) (lo.map ρ) (hi.map ρ) (mx.map ρ)
  | .fieldAddr s x f => pFieldAddr P s (ρ x) f
  | .field t x f => pField P t (ρ x) f
  | .indexAddr t x i => pIndexAddr P t H (ρ x) (ρ i)
  | .index t x i => pIndex P t (ρ x) (ρ i)
  | .extract x i => pExtract (ρ x) i
  | .build t parts => pBuild P H t (parts.toList.map fun p => (p.1, ρ p.2))
  | .call c => match c.callee with
    | .builtin .len => match c.args.toList, c.argTypes.toList with
      | [x], [t] => pLen P t H (ρ x)
      | _, _ => fail1
    | .builtin .min => match c.args.toList with
      | [x, y] => mmD minI (ρ x) (ρ y)
      | _ => fail1
    | .builtin .max => match c.args.toList with
      | [x, y] => mmD maxI (ρ x) (ρ y)
      | _ => fail1
    | _ => fail1
  | _ => fail1

section
variable {P : Program} {S : Nat → Prop} {μ : Nat → Value} {w : World}

theorem Rep.cells {x : V} {u : Value} (h : Rep S w x u) : u.cells = #[u] := by cases h <;> rfl

theorem cellsD_sound {H : List Box} (hH : HeapRel S μ w H) {d : D} {u : Value} {cs : List D} (hd : DRep S μ w d u) (hc : cellsD H d = some cs) :
    u.cells.size = cs.length ∧ ∀ (j : Nat) (y : D) (z : Value), cs[j]? = some y → u.cells[j]? = some z → DRep S μ w y z := by
  have one : ∀ (d : D) (u : Value), DRep S μ w d u → u.cells = #[u] → cs = [d] → u.cells.size = cs.length ∧ ∀ (j : Nat) (y : D) (z : Value), cs[j]? = some y → u.cells[j]? = some z → DRep S μ w y z := by
    rintro d u hd hu rfl
    rw [hu]
    refine ⟨rfl, fun j y z hy hz => ?_⟩
    cases j with
    | zero => simp at hy hz; subst hy hz; exact hd
    | succ j => simp at hy
  unfold cellsD at hc
  split at hc
  · cases hc
    obtain ⟨us, rfl, h1, h2⟩ := agg_inv hd
    exact ⟨h1, h2⟩
  · cases hc
  · cases hc
  · split at hc
    · rename_i E sz α enc d' l hb
      cases hc
      obtain ⟨q, c, hm, _⟩ := own_slice (hH.box _ _ hb)
      have hu := own_inv hd
      exact one _ _ hd (by rw [hu, hm]; rfl) rfl
    · cases hc
  · rename_i h1 h2 h3 h4
    cases hc
    refine one _ _ hd ?_ rfl
    cases hd with
    | v x u h => exact h.cells
    | nils => rfl
    | own id => exact absurd rfl (h4 id)
    | ptr => rfl
    | iptr => rfl
    | agg cs us _ _ => exact absurd rfl (h1 cs)
    | tup cs us _ _ => exact absurd rfl (h2 cs)
    | fn => rfl
    | yld => rfl
    | capd => rfl
    | junk u => exact absurd rfl h3

/-- Values that read as a list. -/
def RepsA (S : Nat → Prop) (μ : Nat → Value) (w : World) (cs : List D) (us : Array Value) : Prop :=
  us.size = cs.length ∧ ∀ (j : Nat) (y : D) (z : Value), cs[j]? = some y → us[j]? = some z → DRep S μ w y z

theorem set_all (new : Array Value) (cells : Array Value) (off : Nat) : ∀ (n : Nat), n ≤ new.size → off + new.size ≤ cells.size →
    ((new.toList.zipIdx.take n).foldl (fun cs (p : Value × Nat) => cs.setIfInBounds (off + p.2) p.1) cells).size = cells.size ∧
    ∀ j, ((new.toList.zipIdx.take n).foldl (fun cs (p : Value × Nat) => cs.setIfInBounds (off + p.2) p.1) cells)[j]? = if off ≤ j ∧ j < off + n then new[j - off]? else cells[j]? := by
  intro n
  induction n with
  | zero => intro _ _; exact ⟨by simp, fun j => by rw [if_neg (by omega)]; simp⟩
  | succ n ih =>
    intro hn ho
    obtain ⟨h1, h2⟩ := ih (by omega) ho
    have ht : new.toList.zipIdx.take (n + 1) = new.toList.zipIdx.take n ++ [(new[n]'(by omega), n)] := by
      rw [List.take_succ_eq_append_getElem (by simp; omega)]
      congr 1
      simp
    rw [ht, List.foldl_append]
    simp only [List.foldl_cons, List.foldl_nil]
    refine ⟨by rw [Array.size_setIfInBounds]; exact h1, fun j => ?_⟩
    by_cases hj : j = off + n
    · subst hj
      rw [Array.getElem?_setIfInBounds_self_of_lt (by omega), if_pos (by omega), show off + n - off = n from by omega]
      simp
    · rw [Array.getElem?_setIfInBounds_ne (by omega), h2 j]
      by_cases hc : off ≤ j ∧ j < off + n
      · rw [if_pos hc, if_pos (by omega)]
      · rw [if_neg hc, if_neg (by omega)]

theorem splice_reps {cs new : List D} {us vs : Array Value} {off : Nat} (h : RepsA S μ w cs us) (hn : RepsA S μ w new vs) (ho : off + new.length ≤ cs.length) :
    RepsA S μ w (splice cs new off) (vs.zipIdx.foldl (fun cs (c, j) => cs.setIfInBounds (off + j) c) us) := by
  have e : vs.zipIdx.foldl (fun cs (c, j) => cs.setIfInBounds (off + j) c) us = (vs.toList.zipIdx.take vs.size).foldl (fun cs (p : Value × Nat) => cs.setIfInBounds (off + p.2) p.1) us := by
    rw [← Array.foldl_toList, Array.toList_zipIdx, List.take_of_length_le (by simp)]
  obtain ⟨h1, h2⟩ := set_all vs us off vs.size (Nat.le_refl _) (by rw [hn.1, h.1]; exact ho)
  rw [← e] at h1 h2
  refine ⟨by rw [h1, h.1]; simp [splice]; omega, fun j y z hy hz => ?_⟩
  rw [h2 j] at hz
  unfold splice at hy
  by_cases hc : off ≤ j ∧ j < off + vs.size
  · rw [if_pos hc] at hz
    refine hn.2 (j - off) y z ?_ hz
    rw [List.getElem?_append_left (by simp; have := hn.1; omega), List.getElem?_append_right (by simp; omega)] at hy
    rw [List.length_take, Nat.min_eq_left (by omega)] at hy
    exact hy
  · rw [if_neg hc] at hz
    refine h.2 j y z ?_ hz
    have hs := hn.1
    by_cases hj : j < off
    · rw [List.getElem?_append_left (by simp; omega), List.getElem?_append_left (by simp; omega), List.getElem?_take, if_pos hj] at hy
      exact hy
    · rw [List.getElem?_append_right (by simp; omega), List.getElem?_drop] at hy
      simp only [List.length_append, List.length_take] at hy
      rw [show off + new.length + (j - (min off cs.length + new.length)) = j from by omega] at hy
      exact hy

theorem fillD_sound {H : List Box} (hH : HeapRel S μ w H) {place : Nat → Option (Nat × Nat)} : ∀ (parts : List (Nat × D)) (uparts : List (Nat × Value)) (cells out : List D) (us : Array Value),
    parts.map (·.1) = uparts.map (·.1) → (∀ (j : Nat) (x : Nat × D) (u : Nat × Value), parts[j]? = some x → uparts[j]? = some u → DRep S μ w x.2 u.2) →
    RepsA S μ w cells us → fillD H place cells parts = some out → ∃ vs, Instr.fill place us uparts = some vs ∧ RepsA S μ w out vs
  | [], [], cells, out, us, _, _, hc, hf => by
    simp only [fillD, Option.some.injEq] at hf
    subst hf
    exact ⟨us, rfl, hc⟩
  | [], _ :: _, _, _, _, h, _, _, _ => by simp at h
  | _ :: _, [], _, _, _, h, _, _, _ => by simp at h
  | (i, x) :: parts, (i', u) :: uparts, cells, out, us, hi, hr, hc, hf => by
    simp only [List.map_cons, List.cons.injEq] at hi
    obtain ⟨rfl, hi⟩ := hi
    unfold fillD at hf
    split at hf
    · rename_i off size new hp hn
      split at hf
      · rename_i hcond
        simp only [Bool.and_eq_true, Nat.beq_eq, Nat.ble_eq] at hcond
        obtain ⟨hl, ho⟩ := hcond
        have hcells := cellsD_sound hH (hr 0 _ _ rfl rfl) hn
        obtain ⟨vs, h1, h2⟩ := fillD_sound hH parts uparts _ out _ hi (fun j x u hx hu => hr (j + 1) x u (by simpa using hx) (by simpa using hu)) (splice_reps hc hcells ho) hf
        refine ⟨vs, ?_, h2⟩
        unfold Instr.fill
        rw [hp]
        dsimp only
        have h9 : u.cells.size = new.length := hcells.1
        have h8 : us.size = cells.length := hc.1
        rw [if_neg (by simp only [Bool.or_eq_true, decide_eq_true_eq]; omega)]
        exact h1
      · cases hf
    · cases hf

theorem zeroD_sound {t : TypeId} {z : List D} (h : zeroD P t = some z) : ∃ v, (zeroValue t).run P w = .ok v w ∧ RepsA S μ w z v.cells := by
  unfold zeroD at h
  cases hi : P.info? t with
  | none => simp [hi] at h
  | some i =>
    cases hz : i.zero with
    | none => simp [hi, hz] at h
    | some v =>
      simp only [hi, hz, Option.bind_some, Option.map_some, Option.some.injEq] at h
      subst h
      refine ⟨v, by simp [zeroValue, typeInfo, hi, hz, Sem.run_bind], by simp, fun j y u hy hu => ?_⟩
      simp only [List.getElem?_map, Array.getElem?_toList, hu, Option.map_some, Option.some.injEq] at hy
      subst hy
      exact DRep.ofVal1 S μ w u

theorem run_mapM_fields : ∀ (l : List Field), l.all (fun f => known P f.type) = true → (l.mapM (fun f => do pure (f.offset, ← sizeOf f.type) : Field → Sem (Nat × Nat))).run P w = .ok (l.map fun f => (f.offset, szOf P f.type)) w
  | [], _ => rfl
  | f :: l, h => by
    simp only [List.all_cons, Bool.and_eq_true] at h
    have := run_mapM_fields l h.2
    simp only [List.mapM_cons, Sem.run_bind, run_szOf h.1, Result.andThen_ok, Sem.run_pure, this, List.map_cons]

theorem pBuild_sound {H : List Box} (hH : HeapRel S μ w H) {t : TypeId} {parts : List (Nat × D)} {uparts : List (Nat × Value)} {d : D} {p : Prop} (h1 : parts.map (·.1) = uparts.map (·.1))
    (h2 : ∀ (j : Nat) (x : Nat × D) (u : Nat × Value), parts[j]? = some x → uparts[j]? = some u → DRep S μ w x.2 u.2) (hp : pBuild P H t parts = (d, p)) (hob : p) :
    ∃ u, (Instr.build t uparts.toArray).run P w = .ok u w ∧ DRep S μ w d u := by
  unfold pBuild at hp
  split at hp
  · rename_i z fs hz hu
    split at hp
    · rename_i hall
      split at hp
      · rename_i cs hf
        cases hp
        obtain ⟨v, hv, hr⟩ := zeroD_sound (S := S) (μ := μ) (w := w) hz
        obtain ⟨vs, h3, h4⟩ := fillD_sound hH parts uparts z cs v.cells h1 h2 hr hf
        refine ⟨.agg vs, ?_, .agg _ _ h4.1 h4.2⟩
        have hall' : fs.toList.all (fun f => known P f.type) = true := by simpa using hall
        have hm := run_mapM_fields (P := P) (w := w) fs.toList hall'
        have hm2 : (fs.mapM (fun f => do pure (f.offset, ← sizeOf f.type) : Field → Sem (Nat × Nat))).run P w = .ok (fs.toList.map fun f => (f.offset, szOf P f.type)).toArray w := by
          rw [Array.mapM_eq_mapM_toList]
          have hb : ∀ (s : Sem (List (Nat × Nat))) (r : List (Nat × Nat)), s.run P w = .ok r w → ((s.bind (Sem.pure ∘ List.toArray)) : Sem (Array (Nat × Nat))).run P w = .ok r.toArray w := by
            intro s r h
            show Sem.run P (s >>= (Sem.pure ∘ List.toArray)) w = _
            rw [Sem.run_bind, h]
            rfl
          exact hb _ _ hm
        unfold Instr.build
        simp only [Sem.run_bind, hv, run_underlying hu, Result.andThen_ok, hm2]
        have hpl : (fun (i : Nat) => ((fs.toList.map fun (f : Field) => (f.offset, szOf P f.type)).toArray)[i]?) = fun (i : Nat) => (fs[i]?).map fun (f : Field) => (f.offset, szOf P f.type) := by
          funext i
          simp
        rw [hpl, h3]
        rfl
      · cases hp; exact hob.elim
    · cases hp; exact hob.elim
  · rename_i z n e hz hu
    split at hp
    · rename_i hk
      split at hp
      · rename_i cs hf
        cases hp
        obtain ⟨v, hv, hr⟩ := zeroD_sound (S := S) (μ := μ) (w := w) hz
        obtain ⟨vs, h3, h4⟩ := fillD_sound hH parts uparts z cs v.cells h1 h2 hr hf
        refine ⟨.agg vs, ?_, .agg _ _ h4.1 h4.2⟩
        unfold Instr.build
        simp only [Sem.run_bind, hv, run_underlying hu, Result.andThen_ok, run_szOf hk]
        rw [h3]
        rfl
      · cases hp; exact hob.elim
    · cases hp; exact hob.elim
  · cases hp; exact hob.elim

theorem opPure_sound {H : List Box} (hH : HeapRel S μ w H) {ρ : Operand → D} {ρ' : Operand → Value} (hρ : ∀ x, DRep S μ w (ρ x) (ρ' x)) {o : Oper} {d : D} {p : Prop} (hp : opPure P H ρ o.op = (d, p)) (hob : p) :
    ∃ u, (execOp ρ' o).run P w = .ok (.value u) w ∧ DRep S μ w d u := by
  have hv : ∀ (s : Sem Value) (u : Value), s.run P w = .ok u w → (do pure (.value (← s)) : Sem Next).run P w = .ok (.value u) w := by
    intro s u h
    simp only [Sem.run_bind, h, Result.andThen_ok, Sem.run_pure]
  have hO : ∀ x : Option Operand, DRepO S μ w (x.map ρ) (x.map ρ') := by
    intro x
    cases x with
    | none => trivial
    | some x => exact hρ x
  unfold opPure at hp
  unfold execOp
  generalize ho : o.op = op at *
  cases op <;> (try simp only at hp) <;> (try (simp only [fail1, Prod.mk.injEq] at hp; obtain ⟨_, rfl⟩ := hp; exact hob.elim))
  case move x => cases hp; exact ⟨_, rfl, hρ x⟩
  case assign x => cases hp; exact ⟨_, rfl, hρ x⟩
  case pick c a b =>
    unfold pPick at hp
    split at hp
    · rename_i t hc
      have hb := bool_inv (hc ▸ hρ c)
      cases t <;> cases hp
      · exact ⟨ρ' b, by simp only [Sem.run_bind, hb, asBool, Sem.run_pure, Result.andThen_ok]; rfl, hρ b⟩
      · exact ⟨ρ' a, by simp only [Sem.run_bind, hb, asBool, Sem.run_pure, Result.andThen_ok]; rfl, hρ a⟩
    · cases hp; exact hob.elim
  case load t a =>
    obtain ⟨u, h1, h2⟩ := pLoad_sound hH (hρ a) hp hob
    exact ⟨u, hv _ _ h1, h2⟩
  case nilCheck x =>
    have hx := hρ x
    dsimp only
    unfold pNil at hp
    split at hp
    · rename_i hq
      cases hp
      rw [hq] at hx
      obtain ⟨b, hb, e⟩ := ptr_inv hx
      rw [e] at hx ⊢
      exact ⟨_, rfl, hx⟩
    · rename_i hq
      cases hp
      rw [hq] at hx
      obtain ⟨b, o', e, _⟩ := iptr_cells hx
      rw [e] at hx ⊢
      exact ⟨_, rfl, hx⟩
    · rename_i f a b hq
      cases hp
      rw [hq] at hx
      generalize ρ' x = u at *
      cases hx with
      | fn _ _ _ us vs h1 h2 h3 h4 => exact ⟨_, rfl, .fn _ _ _ us vs h1 h2 h3 h4⟩
    · rename_i id hq
      cases hp
      rw [hq] at hx
      generalize ρ' x = u at *
      cases hx with
      | yld _ l h1 => exact ⟨_, rfl, .yld _ l h1⟩
    · cases hp; exact hob.elim
  case binOp op t x y yt =>
    obtain ⟨u, h1, h2⟩ := pBin_sound x y (hρ x) (hρ y) hp hob
    exact ⟨u, hv _ _ h1, h2⟩
  case unOp op t x =>
    obtain ⟨u, h1, h2⟩ := pUn_sound (P := P) (hρ x) hp hob
    exact ⟨u, hv _ _ h1, h2⟩
  case convert src dst x =>
    obtain ⟨u, h1, h2⟩ := pConv_sound (hρ x) hp hob
    exact ⟨u, hv _ _ h1, h2⟩
  case makeFunc fn first cap =>
    cases hp
    refine ⟨_, hv _ _ rfl, .fn _ _ _ _ _ (by simp) (fun j y u hy hu => ?_) (by simp) (fun j y u hy hu => ?_)⟩
    · simp only [List.getElem?_map, Array.getElem?_toList, Array.getElem?_map] at hy hu
      cases hj : first[j]? with
      | none => rw [hj] at hy; cases hy
      | some x => rw [hj] at hy hu; simp at hy hu; subst hy hu; exact hρ x
    · simp only [List.getElem?_map, Array.getElem?_toList, Array.getElem?_map] at hy hu
      cases hj : cap[j]? with
      | none => rw [hj] at hy; cases hy
      | some x => rw [hj] at hy hu; simp at hy hu; subst hy hu; exact hρ x
  case slice t x lo hi mx =>
    obtain ⟨u, h1, h2⟩ := pSlice_sound (hρ x) (hO lo) (hO hi) (hO mx) hp hob
    exact ⟨u, hv _ _ h1, h2⟩
  case fieldAddr s x f =>
    obtain ⟨u, h1, h2⟩ := pFieldAddr_sound (hρ x) hp hob
    exact ⟨u, hv _ _ h1, h2⟩
  case field t x f =>
    obtain ⟨u, h1, h2⟩ := pField_sound (hρ x) hp hob
    exact ⟨u, hv _ _ h1, h2⟩
  case indexAddr t x i =>
    obtain ⟨u, h1, h2⟩ := pIndexAddr_sound hH (hρ x) (hρ i) hp hob
    exact ⟨u, hv _ _ h1, h2⟩
  case index t x i =>
    obtain ⟨u, h1, h2⟩ := pIndex_sound (hρ x) (hρ i) hp hob
    exact ⟨u, hv _ _ h1, h2⟩
  case extract x i =>
    have hx := hρ x
    unfold pExtract at hp
    split at hp
    · rename_i cs hq
      split at hp
      · rename_i hi
        cases hp
        rw [hq] at hx
        obtain ⟨us, e, h1, h2⟩ := tup_inv hx
        rw [Nat.blt_eq] at hi
        have hu : us[i]? = some us[i] := Array.getElem?_eq_getElem (by omega)
        refine ⟨us[i], hv _ _ (by rw [e]; simp only [Instr.extract, hu]; rfl), ?_⟩
        rw [getD_lt _ _ hi]
        exact h2 i _ _ (List.getElem?_eq_getElem hi) hu
      · cases hp; exact hob.elim
    · cases hp; exact hob.elim
  case build t parts =>
    obtain ⟨u, h1, h2⟩ := pBuild_sound (P := P) hH (uparts := parts.toList.map fun p => (p.1, ρ' p.2)) (by simp) (fun j x u hx hu => by
      simp only [List.getElem?_map, Array.getElem?_toList] at hx hu
      cases hj : parts[j]? with
      | none => rw [hj] at hx; cases hx
      | some q => rw [hj] at hx hu; simp at hx hu; subst hx hu; exact hρ q.2) hp hob
    refine ⟨u, hv _ _ ?_, h2⟩
    rw [← h1]
    congr 2
    exact (Array.ext' (by simp))
  case call c =>
    obtain ⟨callee, args, ats⟩ := c
    simp only at hp
    split at hp
    · rename_i hcal
      split at hp
      · rename_i x t ha ht
        obtain ⟨u, h1, h2⟩ := pLen_sound (P := P) (ty := o.type) hH (hρ x) hp hob
        refine ⟨u, ?_, h2⟩
        have ea : args = #[x] := Array.ext' (by simpa using ha)
        have et : ats = #[t] := Array.ext' (by simpa using ht)
        subst ea et
        simp only [resolve, invoke, builtin, List.map_toArray, List.map_cons, List.map_nil, Sem.run_bind, Sem.run_pure, Result.andThen_ok, h1]
      · cases hp; exact hob.elim
    · split at hp
      · rename_i x y ha
        have ea : args = #[x, y] := Array.ext' (by simpa using ha)
        subst ea
        unfold mmD at hp
        split at hp
        · rename_i k a k' b hq1 hq2
          cases hp
          have e1 := int_inv (hq1 ▸ hρ x)
          have e2 := int_inv (hq2 ▸ hρ y)
          refine ⟨.int k (minI a b), ?_, .v _ _ (.int _ _)⟩
          simp only [resolve, invoke, builtin, List.map_toArray, List.map_cons, List.map_nil, Sem.run_bind, Sem.run_pure, Result.andThen_ok, e1, e2, Builtin.min_, List.foldlM_cons, List.foldlM_nil, Builtin.min2]
          rfl
        · cases hp; exact hob.elim
      · cases hp; exact hob.elim
    · split at hp
      · rename_i x y ha
        have ea : args = #[x, y] := Array.ext' (by simpa using ha)
        subst ea
        unfold mmD at hp
        split at hp
        · rename_i k a k' b hq1 hq2
          cases hp
          have e1 := int_inv (hq1 ▸ hρ x)
          have e2 := int_inv (hq2 ▸ hρ y)
          refine ⟨.int k (maxI a b), ?_, .v _ _ (.int _ _)⟩
          simp only [resolve, invoke, builtin, List.map_toArray, List.map_cons, List.map_nil, Sem.run_bind, Sem.run_pure, Result.andThen_ok, e1, e2, Builtin.max_, List.foldlM_cons, List.foldlM_nil, Builtin.max2]
          rfl
        · cases hp; exact hob.elim
      · cases hp; exact hob.elim
    · cases hp; exact hob.elim

end
end Go.Proofs.Ytjmfaebimgnblaa
