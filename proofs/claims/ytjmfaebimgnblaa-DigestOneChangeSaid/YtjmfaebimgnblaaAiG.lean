/-
  Operations that write memory or make it, on pure data: variables, stores, slices of the call's own. Generic: over any program.
-/
import Derived.Test.YtjmfaebimgnblaaAiS
import Derived.Test.YtjmfaebimgnblaaAiW
namespace Go.Proofs.Ytjmfaebimgnblaa
open Go.RowKit
set_option linter.unusedVariables false
set_option linter.unusedSimpArgs false

/-- What the prover adds to an operation: its result, or the array that it writes, in other words; or the contract of the called function. -/
inductive Ov : Type 1
  | none
  | val (d : D)
  | box (E : TypeId) (sz : Nat) {α : Type} (enc : α → List V) (d : α) (l : List α)
  | call (as : Option (List D)) (al : Bool) (r : D)
  /-- a new array that is written no more -/
  | frz (E : TypeId) (sz : Nat) {α : Type} (enc : α → List V) (d : α) (l : List α)
  /-- a call whose code is walked here: its result; the caller's slots and the boxes behind it -/
  | inl (r : D) (env : List (Nat × D)) (H : List Box)
  /-- a round of the loop that this activation feeds: what yield answers; the slots and the boxes behind it -/
  | yld (b : Bool) (env : List (Nat × D)) (H : List Box)

/-- It is one cell. -/
def oneH (H : List Box) : D → Bool
  | .agg _ => false
  | .tup _ => false
  | .junk => false
  | .own id => match H[id]? with | some (.arr _ _ _ _ _) => true | _ => false
  | _ => true

abbrev R2 := St × Prop
def fail2 (st : St) : R2 := (st, False)

def toV : D → Option V
  | .v x => some x
  | .nils => some (.sl 0 (α := Unit) (fun _ => []) () [])
  | _ => none
def toVs : List D → Option (List V)
  | [] => some []
  | d :: r => match toV d, toVs r with
    | some x, some xs => some (x :: xs)
    | _, _ => none
def toRows : List (List D) → Option (List (List V))
  | [] => some []
  | d :: r => match toVs d, toRows r with
    | some x, some xs => some (x :: xs)
    | _, _ => none

/-- A cell as the element of an array. -/
def eqDV : D → V → Prop
  | .v x, y => eqV x y
  | .nils, .sl _ _ _ l => l = []
  | _, _ => False
def eqRow : List D → List V → Prop
  | [], [] => True
  | d :: ds, v :: vs => eqDV d v ∧ eqRow ds vs
  | _, _ => False
def eqRows : List (List D) → List (List V) → Prop
  | [], [] => True
  | d :: ds, v :: vs => eqRow d v ∧ eqRows ds vs
  | _, _ => False

/-- An array with elements L, in the prover's words. -/
def arrOf (E sz : Nat) (L : List (List V)) : Ov → Box × Prop
  | .box E' sz' enc' d' l' => if Nat.beq E E' && Nat.beq sz sz' then (.arr E sz enc' d' l', L = l'.map enc') else (.dead, False)
  | _ => (.arr E sz (α := Nat) (fun i => L.getD i []) 0 (List.range L.length), True)

def newBox (st : St) (nt : Nat) (dst : Option Nat) (B : Box) (d : D) (p : Prop) : R2 :=
  match dst with
  | some t => if Nat.blt t nt && freeE st.heap.length st.env && freeH st.heap.length st.heap then (⟨putE st.env t d, st.heap ++ [B]⟩, p) else fail2 st
  | none => fail2 st

def eVar (nt : Nat) (st : St) (dst : Option Nat) (T : TypeId) (cs : List D) : R2 :=
  if D.freeL st.heap.length cs then newBox st nt dst (.var T cs) (.ptr st.heap.length 0 0 0) True else fail2 st

def eStore (P : Program) (st : St) (ov : Ov) (t : TypeId) (a x : D) : R2 :=
  match a, cellsD st.heap x with
  | .ptr id i sz off, some new =>
    if known P t && Nat.beq new.length (szOf P t) && new.all (oneH st.heap) then
      match st.heap[id]? with
      | some (.var T cs) => if Nat.beq i 0 && Nat.ble (off + new.length) cs.length then (⟨st.env, st.heap.set id (.var T (splice cs new off))⟩, True) else fail2 st
      | some (.arr E sz' enc d l) => match toVs new with
        | some nv => if Nat.beq sz sz' && Nat.ble (off + nv.length) sz then
            match arrOf E sz ((l.map enc).set i ((enc (l.getD i d)).take off ++ nv ++ (enc (l.getD i d)).drop (off + nv.length))) ov with
            | (B, p) => (⟨st.env, st.heap.set id B⟩, i < l.length ∧ p)
          else fail2 st
        | none => fail2 st
      | _ => fail2 st
    else fail2 st
  | _, _ => fail2 st

def chunk (sz n : Nat) (cells : List D) : List (List D) := (List.range n).map fun i => (cells.drop (i * sz)).take sz

def eSlice (P : Program) (nt : Nat) (st : St) (ov : Ov) (dst : Option Nat) (t : TypeId) (len : Nat) (parts : List (Nat × D)) : R2 :=
  match P.underlying t with
  | some (.slice E) => match zeroD P E with
    | some z => if known P E && Nat.beq z.length (szOf P E) && Nat.ble 1 (szOf P E) && Nat.ble (len * szOf P E) 4096 then
        match fillD st.heap (fun i => some (i * szOf P E, szOf P E)) (List.replicate len z).flatten parts with
        | some cells => match ov with
          | .box E' sz' enc' d' l' => if Nat.beq E E' && Nat.beq (szOf P E) sz' then newBox st nt dst (.arr E (szOf P E) enc' d' l') (.own st.heap.length) (eqRows (chunk (szOf P E) len cells) (l'.map enc')) else fail2 st
          | _ => match toRows (chunk (szOf P E) len cells) with
            | some L => newBox st nt dst (.arr E (szOf P E) (α := Nat) (fun i => L.getD i []) 0 (List.range L.length)) (.own st.heap.length) True
            | none => fail2 st
        | none => fail2 st
      else fail2 st
    | none => fail2 st
  | _ => fail2 st

def bytesOf' (P : Program) (t : TypeId) : Nat := ((P.info? t).map (·.bytes)).getD 0

def eMake (P : Program) (nt : Nat) (st : St) (ov : Ov) (dst : Option Nat) (t : TypeId) (l c : D) : R2 :=
  match P.underlying t, l, c with
  | some (.slice E), .v (.int _ n), .v (.int _ m) => match zeroD P E with
    | some z => if known P E && Nat.beq z.length (szOf P E) && Nat.ble 1 (szOf P E) && Nat.ble (bytesOf' P E) 1024 then
        match ov with
        | .box E' sz' enc' d' l' => if Nat.beq E E' && Nat.beq (szOf P E) sz' then newBox st nt dst (.arr E (szOf P E) enc' d' l') (.own st.heap.length) ((0 ≤ n ∧ n ≤ m ∧ m ≤ 137438953472) ∧ l'.length = n.toNat ∧ ∀ x ∈ l', eqRow z (enc' x)) else fail2 st
        | _ => fail2 st
      else fail2 st
    | none => fail2 st
  | _, _, _ => fail2 st

/-- The elements of a slice, as cells. -/
def srcOf (H : List Box) (sz : Nat) : D → Option (List (List V))
  | .v (.sl sz' enc _ l) => if Nat.beq sz sz' then some (l.map enc) else none
  | .own id => match H[id]? with
    | some (.arr _ sz' enc _ l) => if Nat.beq sz sz' then some (l.map enc) else none
    | _ => none
  | .nils => some []
  | _ => none

def eAppend (P : Program) (nt : Nat) (st : St) (ov : Ov) (dst : Option Nat) (t : TypeId) (s x : D) : R2 :=
  match P.underlying t with
  | some (.slice E) => match zeroD P E, srcOf st.heap (szOf P E) x with
    | some z, some new => if known P E && Nat.beq z.length (szOf P E) && Nat.ble 1 (szOf P E) && Nat.ble (bytesOf' P E) 1024 then
        match s with
        | .own id => match st.heap[id]?, dst with
          | some (.arr E' sz' enc d l), some td => if Nat.beq E E' && Nat.beq sz' (szOf P E) && Nat.blt td nt && D.free id x then
              match arrOf E sz' (l.map enc ++ new) ov with
              | (B, p) => (⟨putE (killE id st.env) td (.own id), setBox (killH id st.heap) id B⟩, l.length + new.length ≤ 137438953472 ∧ p)
            else fail2 st
          | _, _ => fail2 st
        | .nils => match arrOf E (szOf P E) new ov with
          | (B, p) => newBox st nt dst B (.own st.heap.length) (new.length ≤ 137438953472 ∧ p)
        | .capd (.sl sz' enc _ l) => if Nat.beq sz' (szOf P E) then
            match arrOf E (szOf P E) (l.map enc ++ new) ov with
            | (B, p) => newBox st nt dst B (.own st.heap.length) (0 < new.length ∧ l.length + new.length ≤ 137438953472 ∧ p)
          else fail2 st
        | _ => fail2 st
      else fail2 st
    | _, _ => fail2 st
  | _ => fail2 st

def ePut (nt : Nat) (st : St) (dst : Option Nat) (d : D) (p : Prop) : R2 :=
  match dst with
  | some t => if Nat.blt t nt then (⟨putE st.env t d, st.heap⟩, p) else fail2 st
  | none => (st, p)

def isGoF (P : Program) (f : FuncId) : Bool := match P.funcs[f]? with
  | some fn => !(fn.name == "runtime.NumGoroutine") && !fn.body.isNone
  | none => false

def isDead : Option Box → Bool
  | some .dead => true
  | _ => false

/-- How a call that is walked in place ends. -/
def inlQ (P : Program) (fn : Func) (r : D) (H : List Box) : Exit → St → Prop
  | .normal, st => resOk P fn st ∧ eqD (resV P fn st) r ∧ st.heap.take H.length = H
  | .ret, st => resOk P fn st ∧ eqD (resV P fn st) r ∧ st.heap.take H.length = H
  | _, _ => False

/-- Function g on values ds and boxes H yields r and leaves the boxes as H'. -/
def InlOk (P : Program) (g : FuncId) (ds : List D) (H : List Box) (r : D) (H' : List Box) : Prop :=
  ∃ fn c, P.funcs[g]? = some fn ∧ fn.body = some c ∧ Nat.ble ds.length fn.ntmps = true ∧
    ∀ C : Ctx, C.P = P → C.nt = fn.ntmps → C.rd = none → Ev C c (inlQ P fn r H') ⟨argsE 0 ds, H⟩

def endState : Exit → LoopState
  | .normal => .ready
  | _ => .done
def endPend : Exit → Option Code
  | .ret => some .ret
  | .exit i => some (.exit i)
  | _ => none
def endAns : Exit → Option Bool
  | .normal => some true
  | .ret => some false
  | .exit _ => some false
  | _ => none

/-- How a round of the loop in box id ends. -/
def roundQ (id l : Nat) (b : Bool) (H : List Box) (e : Exit) (st : St) : Prop :=
  match st.heap[id]? with
  | some (.loop l' tm nt env ps as bd _ _) => l' = l ∧ endAns e = some b ∧ (st.heap.set id (.loop l' tm nt env ps as bd (endState e) (endPend e))).take H.length = H
  | _ => False

/-- Its left sides are assigned: the round begins. -/
def beginQ (C : Ctx) (body : Code) (id l : Nat) (b : Bool) (H : List Box) : Exit → St → Prop
  | .normal, st => match st.heap[id]? with
    | some (.loop l' tm nt env ps as bd .ready none) => l' = l ∧ Ev C body (roundQ id l b H) ⟨st.env, st.heap.set id (.loop l' tm nt env ps as bd .busy none)⟩
    | _ => False
  | _, _ => False

/-- A round of loop l. -/
def YieldOk (P : Program) (l nt : Nat) (assign body : Code) (st : St) (id : Nat) (b : Bool) (H : List Box) : Prop :=
  ∀ C : Ctx, C.P = P → C.nt = nt → C.rd = some l → Ev C assign (beginQ C body id l b H) st

def putPs : List Nat → List D → List (Nat × D) → List (Nat × D)
  | p :: ps, d :: ds, env => putPs ps ds (putE env p d)
  | _, _, env => env
def eInl (P : Program) (nt : Nat) (st : St) (dst : Option Nat) (g : FuncId) (ds : List D) (r : D) (env : List (Nat × D)) (H : List Box) : R2 :=
  if isGoF P g && freeE st.heap.length st.env && freeH st.heap.length st.heap && isDead H[st.heap.length]? then
    ePut nt ⟨env, H⟩ dst r (∀ tm : Array Value, InlOk P g ds (st.heap ++ [.frame tm st.env]) r (H.set st.heap.length (.frame tm env)))
  else fail2 st

def eYield (P : Program) (nt : Nat) (st : St) (dst : Option Nat) (id : Nat) (ds : List D) (b : Bool) (env : List (Nat × D)) (H : List Box) : R2 :=
  match st.heap[id]? with
  | some (.loop l tm ntL envL ps as body .ready none) =>
    if freeE st.heap.length st.env && freeH st.heap.length st.heap && isDead H[st.heap.length]? && Nat.beq ps.length ds.length && ps.all (fun p => Nat.blt p ntL) then
      ePut nt ⟨env, H⟩ dst (.v (.bool b)) (∀ tmF : Array Value, YieldOk P l ntL as body ⟨putPs ps ds envL, st.heap ++ [.frame tmF st.env]⟩ id b (H.set st.heap.length (.frame tmF env)))
    else fail2 st
  | _ => fail2 st

def eCall (P : Program) (nt : Nat) (st : St) (ov : Ov) (dst : Option Nat) (f : D) (ds : List D) : R2 :=
  match f with
  | .fn (.func g) first cap => match ov with
    | .call as al r => if isGoF P g && noRef r && (!al || noOwn (first ++ ds ++ cap)) then
        ePut nt st dst r (callOb P g st.heap (first ++ ds ++ cap) as al r)
      else fail2 st
    | .inl r env H => eInl P nt st dst g (first ++ ds ++ cap) r env H
    | _ => fail2 st
  | .yld id => match ov with
    | .yld b env H => eYield P nt st dst id ds b env H
    | _ => fail2 st
  | _ => fail2 st

def pureOp (nt : Nat) (st : St) (ov : Ov) (dst : Option Nat) (r : R1) : R2 :=
  match ov with
  | .val d' => ePut nt st dst d' (r.2 ∧ eqD r.1 d')
  | _ => ePut nt st dst r.1 r.2

def seqOp (P : Program) (nt : Nat) (ov : Ov) (o : Oper) (st : St) : R2 :=
  match o.op with
  | .alloc T => match zeroD P T with
    | some z => eVar nt st o.dst T z
    | none => fail2 st
  | .box T x => match cellsD st.heap (evD st.env x) with
    | some cs => eVar nt st o.dst T cs
    | none => fail2 st
  | .store t a x => match o.dst with
    | none => eStore P st ov t (evD st.env a) (evD st.env x)
    | some _ => fail2 st
  | .buildSlice t len parts => match ov with
    | .frz E sz enc d l => match eSlice P nt st (.box E sz enc d l) o.dst t len (parts.toList.map fun p => (p.1, evD st.env p.2)) with
      | (st1, p) => match freezeS st.heap.length st1 with
        | some st2 => (st2, p)
        | none => fail2 st
    | _ => eSlice P nt st ov o.dst t len (parts.toList.map fun p => (p.1, evD st.env p.2))
  | .makeSlice t l c => match ov with
    | .frz E sz enc d l' => match eMake P nt st (.box E sz enc d l') o.dst t (evD st.env l) (evD st.env c) with
      | (st1, p) => match freezeS st.heap.length st1 with
        | some st2 => (st2, p)
        | none => fail2 st
    | _ => eMake P nt st ov o.dst t (evD st.env l) (evD st.env c)
  | .call ⟨.builtin .append, args, ats⟩ => match args.toList, ats.toList with
    | [s, x], [t, t'] => if Nat.beq t t' then eAppend P nt st ov o.dst t (evD st.env s) (evD st.env x) else fail2 st
    | _, _ => fail2 st
  | .call ⟨.value f, args, _⟩ => eCall P nt st ov o.dst (evD st.env f) (args.toList.map (evD st.env))
  | op => pureOp nt st ov o.dst (opPure P st.heap (evD st.env) op)

section
variable {C : Ctx} {S : Nat → Prop} {μ : Nat → Value} {st st' : St} {a : Act} {w w' : World} {p : Prop}

/-- A new box, and a slot that speaks of it. -/
theorem Rel.newBox (h : Rel C S μ st a w) {dst : Option Nat} {B : Box} {d : D} {q : Prop} (hp : newBox st C.nt dst B d q = (st', p)) (hob : p) (hg : w.grownBy w' none) {u : Value}
    (hbox : BoxRel S (updM μ st.heap.length u) w' u B) (hblk : ∀ b, blkOf u = some b → w.heap.size ≤ b) {v : Value} (hv : DRep S (updM μ st.heap.length u) w' d v) :
    q ∧ Rel C S (updM μ st.heap.length u) st' (a.put dst v) w' := by
  unfold Proofs.Ytjmfaebimgnblaa.newBox at hp
  split at hp
  · split at hp
    · rename_i t hc
      simp only [Bool.and_eq_true, Nat.blt_eq] at hc
      simp only [Prod.mk.injEq] at hp
      obtain ⟨rfl, rfl⟩ := hp
      refine ⟨hob, ?_⟩
      have := (h.upd (id := st.heap.length) (B := B) (u := u) hg (fun k hk => by cases hk) (Nat.le_refl _) hbox (fun b hb => .inr (hblk b hb)) (.inr ⟨fun A hA => by simp at hA, hc.1.2, hc.2⟩)).put hc.1.1 hv
      rw [show setBox st.heap st.heap.length B = st.heap ++ [B] from by simp [setBox]] at this
      exact this
    · simp only [fail2, Prod.mk.injEq] at hp
      rw [← hp.2] at hob
      exact hob.elim
  · simp only [fail2, Prod.mk.injEq] at hp
    rw [← hp.2] at hob
    exact hob.elim

theorem Rel.eVar (h : Rel C S μ st a w) {dst : Option Nat} {T : TypeId} {cs : List D} {vs : Array Value} (hp : eVar C.nt st dst T cs = (st', p)) (hob : p) (hr : RepsA S μ w cs vs) :
    Rel C S (updM μ st.heap.length (.pointer (some ⟨w.heap.size, 0, none⟩))) st' (a.put dst (.pointer (some ⟨w.heap.size, 0, none⟩))) (w.alloc (.cells vs T)) := by
  unfold Proofs.Ytjmfaebimgnblaa.eVar at hp
  split at hp
  · rename_i hf
    have hg := World.grownBy_alloc w (.cells vs T) none
    refine (h.newBox hp hob hg ⟨w.heap.size, vs, rfl, heap_alloc_new w _, hr.1, fun j y x hy hx => ?_⟩ (fun b hb => by simp [blkOf] at hb; omega) ?_).2
    · refine (hr.2 j y x hy hx).stable (fun _ h _ => h) (fun b _ hb => hg.block b hb (by simp)) hg.size (fun id hid => ?_)
      refine updM_other _ _ (fun e => ?_)
      rw [e, D.freeL_get hf hy] at hid
      cases hid
    · have := DRep.ptr (S := S) (μ := updM μ st.heap.length (.pointer (some ⟨w.heap.size, 0, none⟩))) (w := w.alloc (.cells vs T)) st.heap.length 0 0 0 w.heap.size (by rw [updM_same]; rfl)
      simpa using this
  · simp only [fail2, Prod.mk.injEq] at hp
    rw [← hp.2] at hob
    exact hob.elim

theorem toVs_inv : ∀ {ds : List D} {xs : List V}, toVs ds = some xs → ds.length = xs.length ∧ ∀ (j : Nat) (x : V), xs[j]? = some x → ∃ d, ds[j]? = some d ∧ toV d = some x
  | [], xs, h => by
    simp only [toVs, Option.some.injEq] at h
    subst h
    exact ⟨rfl, fun j x hx => by simp at hx⟩
  | d :: r, xs, h => by
    unfold toVs at h
    split at h
    · rename_i y ys hy hys
      simp only [Option.some.injEq] at h
      subst h
      obtain ⟨h1, h2⟩ := toVs_inv hys
      refine ⟨by simp [h1], fun j x hx => ?_⟩
      cases j with
      | zero => simp at hx; subst hx; exact ⟨d, rfl, hy⟩
      | succ j => simpa using h2 j x (by simpa using hx)
    · cases h

theorem toV_rep {d : D} {x : V} {u : Value} (h : toV d = some x) (hd : DRep S μ w d u) : Rep S w x u := by
  unfold toV at h
  split at h
  · cases h; exact sl_inv hd
  · cases h
    cases hd
    exact .nil _ _ _ _ _ (by simp [maxLen]) (fun _ => rfl)
  · cases h

theorem eqDV_rep {d : D} {x : V} {u : Value} (h : eqDV d x) (hd : DRep S μ w d u) : Rep S w x u := by
  unfold eqDV at h
  split at h
  · exact eqV_rep h (sl_inv hd)
  · subst h
    cases hd
    exact .nil _ _ _ _ _ (by simp [maxLen]) (fun _ => rfl)
  · exact h.elim

theorem eqRow_inv : ∀ {ds : List D} {xs : List V}, eqRow ds xs → ds.length = xs.length ∧ ∀ (j : Nat) (x : V), xs[j]? = some x → ∃ d, ds[j]? = some d ∧ eqDV d x
  | [], [], _ => ⟨rfl, fun j x hx => by simp at hx⟩
  | [], _ :: _, h => h.elim
  | _ :: _, [], h => h.elim
  | d :: r, y :: ys, h => by
    obtain ⟨h1, h2⟩ := eqRow_inv h.2
    refine ⟨by simp [h1], fun j x hx => ?_⟩
    cases j with
    | zero => simp at hx; subst hx; exact ⟨d, rfl, h.1⟩
    | succ j => simpa using h2 j x (by simpa using hx)

theorem eqRows_inv : ∀ {ds : List (List D)} {xs : List (List V)}, eqRows ds xs → ds.length = xs.length ∧ ∀ (j : Nat) (x : List V), xs[j]? = some x → ∃ d, ds[j]? = some d ∧ eqRow d x
  | [], [], _ => ⟨rfl, fun j x hx => by simp at hx⟩
  | [], _ :: _, h => h.elim
  | _ :: _, [], h => h.elim
  | d :: r, y :: ys, h => by
    obtain ⟨h1, h2⟩ := eqRows_inv h.2
    refine ⟨by simp [h1], fun j x hx => ?_⟩
    cases j with
    | zero => simp at hx; subst hx; exact ⟨d, rfl, h.1⟩
    | succ j => simpa using h2 j x (by simpa using hx)

theorem toRows_inv : ∀ {ds : List (List D)} {xs : List (List V)}, toRows ds = some xs → ds.length = xs.length ∧ ∀ (j : Nat) (x : List V), xs[j]? = some x → ∃ d, ds[j]? = some d ∧ toVs d = some x
  | [], xs, h => by
    simp only [toRows, Option.some.injEq] at h
    subst h
    exact ⟨rfl, fun j x hx => by simp at hx⟩
  | d :: r, xs, h => by
    unfold toRows at h
    split at h
    · rename_i y ys hy hys
      simp only [Option.some.injEq] at h
      subst h
      obtain ⟨h1, h2⟩ := toRows_inv hys
      refine ⟨by simp [h1], fun j x hx => ?_⟩
      cases j with
      | zero => simp at hx; subst hx; exact ⟨d, rfl, hy⟩
      | succ j => simpa using h2 j x (by simpa using hx)
    · cases h

/-- The same array in other words. -/
theorem BoxRel.retype {E sz : Nat} {α β : Type} {enc : α → List V} {d : α} {l : List α} {enc' : β → List V} {d' : β} {l' : List β} {u : Value} (h : BoxRel S μ w u (.arr E sz enc d l)) (he : l.map enc = l'.map enc') :
    BoxRel S μ w u (.arr E sz enc' d' l') := by
  have hlen : l.length = l'.length := by have := congrArg List.length he; simpa using this
  obtain ⟨h0, xs, h1, h2⟩ := h
  have back : ∀ (i : Nat) (x : β), l'[i]? = some x → ∃ y, l[i]? = some y ∧ enc y = enc' x := fun i x hx => map_inv (by rw [he]; exact map_get hx)
  refine ⟨fun i x hx => ?_, xs, by rw [← hlen]; exact h1, fun i x j y hx hy => ?_⟩
  · obtain ⟨z, hz, e⟩ := back i x hx
    rw [← e]; exact h0 i z hz
  · obtain ⟨z, hz, e⟩ := back i x hx
    exact h2 i z j y hz (by rw [e]; exact hy)

/-- The elements of an array, whatever words they are told in. -/
def ArrL (S : Nat → Prop) (w : World) (E sz : Nat) (L : List (List V)) (u : Value) : Prop :=
  (∀ (i : Nat) (x : List V), L[i]? = some x → x.length = sz) ∧ ∃ xs, w.ownsRow 0 E sz u L.length xs ∧ ∀ (i : Nat) (x : List V) (j : Nat) (y : V), L[i]? = some x → x[j]? = some y → ∃ z, xs[i * sz + j]? = some z ∧ Rep S w y z

theorem ArrL.box {E sz : Nat} {L : List (List V)} {u : Value} (h : ArrL S w E sz L u) {α : Type} {enc : α → List V} {d : α} {l : List α} (he : L = l.map enc) : BoxRel S μ w u (.arr E sz enc d l) := by
  subst he
  obtain ⟨h0, xs, h1, h2⟩ := h
  exact ⟨fun i x hx => h0 i _ (map_get hx), xs, by simpa using h1, fun i x j y hx hy => h2 i _ j y (map_get hx) hy⟩
theorem ArrL.of {E sz : Nat} {u : Value} {α : Type} {enc : α → List V} {d : α} {l : List α} (h : BoxRel S μ w u (.arr E sz enc d l)) : ArrL S w E sz (l.map enc) u := by
  obtain ⟨h0, xs, h1, h2⟩ := h
  refine ⟨fun i x hx => ?_, xs, by simpa using h1, fun i x j y hx hy => ?_⟩
  · obtain ⟨z, hz, rfl⟩ := map_inv hx
    exact h0 i z hz
  · obtain ⟨z, hz, rfl⟩ := map_inv hx
    exact h2 i z j y hz hy
theorem range_map (L : List (List V)) : (List.range L.length).map (fun i => L.getD i []) = L := by
  refine List.ext_getElem (by simp) (fun i h1 h2 => ?_)
  simp [List.getD, h2]

theorem arrOf_box {E sz : Nat} {L : List (List V)} {ov : Ov} {B : Box} {q : Prop} {u : Value} (h : arrOf E sz L ov = (B, q)) (hq : q) (hb : ArrL S w E sz L u) : BoxRel S μ w u B ∧ B.isArr = true := by
  unfold arrOf at h
  split at h
  · split at h
    · rename_i hc
      simp only [Prod.mk.injEq] at h
      obtain ⟨rfl, rfl⟩ := h
      exact ⟨hb.box hq, rfl⟩
    · cases h; exact hq.elim
  · cases h; exact ⟨hb.box (range_map L).symm, rfl⟩

theorem oneH_one {H : List Box} (hH : HeapRel S μ w H) {d : D} {u : Value} (h : oneH H d = true) (hd : DRep S μ w d u) : u.oneCell' = true := by
  cases hd with
  | v x u h => exact h.one
  | nils => rfl
  | own id =>
    unfold oneH at h
    simp only at h
    split at h
    · rename_i E sz α enc d l hb
      obtain ⟨p, c, hu, _⟩ := own_slice (hH.box id _ hb)
      rw [hu]
      rfl
    · cases h
  | ptr => rfl
  | capd => rfl
  | iptr => rfl
  | agg => cases h
  | tup => cases h
  | fn => rfl
  | yld => rfl
  | junk => cases h

theorem ones_of {H : List Box} (hH : HeapRel S μ w H) {cs : List D} {us : Array Value} (hr : RepsA S μ w cs us) (hall : cs.all (oneH H) = true) : ∀ z ∈ us.toList, z.oneCell' = true := by
  intro z hz
  obtain ⟨j, hj, e⟩ := List.getElem_of_mem hz
  have hj' : j < us.size := by simpa using hj
  have hc : j < cs.length := by have := hr.1; omega
  rw [List.all_eq_true] at hall
  exact oneH_one hH (hall _ (List.getElem_mem hc)) (hr.2 j cs[j] z (List.getElem?_eq_getElem hc) (by rw [← e]; simp [hj']))

end
end Go.Proofs.Ytjmfaebimgnblaa
