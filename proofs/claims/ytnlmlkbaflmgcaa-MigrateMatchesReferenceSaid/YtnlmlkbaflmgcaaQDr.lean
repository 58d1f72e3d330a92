/-
  Regions that draw their order: new boxes may be used at once. Generic: over any program.
-/
import Derived.Test.YtnlmlkbaflmgcaaQKb
namespace Go.Proofs.Ytnlmlkbaflmgcaa
open Go.RowKit
set_option linter.unusedVariables false
set_option linter.unusedSimpArgs false
mutual
def nD : D → (D → Prop) → Prop
 | .v x, k => nV x (fun x => k (.v x))
 | .agg cs, k => nL cs (fun cs => k (.agg cs))
 | .tup cs, k => nL cs (fun cs => k (.tup cs))
 | .fn f a b, k => nL a (fun a => nL b (fun b => k (.fn f a b)))
 | .nils, k => k .nils
 | .own i, k => k (.own i)
 | .ptr i a b c, k => k (.ptr i a b c)
 | .iptr cs o, k => k (.iptr cs o)
 | .yld i, k => k (.yld i)
 | .capd x, k => k (.capd x)
 | .junk, k => k .junk
def nV : V → (V → Prop) → Prop
 | .int a n, k => k (.int a n)
 | .bool b, k => k (.bool b)
 | .str s, k => k (.str s)
 | .sl sz enc d l, k => k (.sl sz enc d l)
 | .mp es, k => k (.mp es)
 | .nilf, k => k .nilf
 | .nsl, k => k .nsl
 | .esl, k => k .esl
 | .sm true enc d l, k => k (.sm true enc d l)
 | .sm false enc d l, k => k (.sm false enc d l)
 | .nmp, k => k .nmp
def nL : List D → (List D → Prop) → Prop
 | [], k => k []
 | d :: r, k => nD d (fun d => nL r (fun r => k (d :: r)))
end
theorem Jj : ∀ (x : V) (k : V → Prop), nV x k = k x := by
 intro x k
 cases x with
 | sm ag enc d l => cases ag <;> rfl
 | _ => rfl
mutual
theorem zD : ∀ (d : D) (k : D → Prop), nD d k = k d
 | .v x, k => Jj x _
 | .agg cs, k => tO cs _
 | .tup cs, k => tO cs _
 | .fn f a b, k => (tO a _).trans (tO b _)
 | .nils, k => rfl
 | .own i, k => rfl
 | .ptr i a b c, k => rfl
 | .iptr cs o, k => rfl
 | .yld i, k => rfl
 | .capd x, k => rfl
 | .junk, k => rfl
theorem tO : ∀ (l : List D) (k : List D → Prop), nL l k = k l
 | [], k => rfl
 | d :: r, k => (zD d _).trans (tO r _)
end
def nE : List (Nat × D) → (List (Nat × D) → Prop) → Prop
 | [], k => k []
 | (t, d) :: r, k => nD d (fun d => nE r (fun r => k ((t, d) :: r)))
theorem GX : ∀ (l : List (Nat × D)) (k : List (Nat × D) → Prop), nE l k = k l
 | [], k => rfl
 | (t, d) :: r, k => (zD d _).trans (GX r _)
def nB : aE → (aE → Prop) → Prop
 | .dead, k => k .dead
 | .var T cs, k => nL cs (fun cs => k (.var T cs))
 | .arr E sz enc d l, k => k (.arr E sz enc d l)
 | .loop l tm nt env ps a b s p, k => k (.loop l tm nt env ps a b s p)
 | .frame tm env, k => k (.frame tm env)
 | .ro E sz enc d l, k => k (.ro E sz enc d l)
 | .mpb t ag enc d l, k => k (.mpb t ag enc d l)
theorem CQ (b : aE) (k : aE → Prop) : nB b k = k b := by
 cases b with
 | var T cs => exact tO cs _
 | _ => rfl
def nH : List aE → (List aE → Prop) → Prop
 | [], k => k []
 | b :: r, k => nB b (fun b => nH r (fun r => k (b :: r)))
theorem GY : ∀ (l : List aE) (k : List aE → Prop), nH l k = k l
 | [], k => rfl
 | b :: r, k => (CQ b _).trans (GY r _)
def nS (st : St) (k : St → Prop) : Prop := nE st.env (fun e => nH st.heap (fun h => k ⟨e, h⟩))
theorem pU (st : St) (k : St → Prop) : nS st k = k st := (GX _ _).trans (GY _ _)
def sZ (P : Program) (nt : Nat) (ops : List Oper) (ovs : List (Nat × Ov)) : Nat → List Oper → St → (St → Prop) → Prop
 | _, [], st, k => k st
 | i, o :: r, st, k => match ia ops st o with
  | some true => match nW P nt (nY ovs i) o st with
   | (st1, p1) => p1 ∧ sZ P nt ops ovs (i + 1) r st1 k
  | some false => match pg nt st o.dst with
   | (st1, p1) => p1 ∧ sZ P nt ops ovs (i + 1) r st1 k
  | none => False
theorem qz {P : Program} {nt : Nat} {ops : List Oper} {ovs : List (Nat × Ov)} : ∀ (r : List Oper) (i : Nat) (st : St) (k : St → Prop), sZ P nt ops ovs i r st k → (ef P nt ops ovs i r st).2 ∧ k (ef P nt ops ovs i r st).1
 | [], i, st, k, h => ⟨trivial, h⟩
 | o :: r, i, st, k, h => by
  unfold sZ at h
  unfold ef
  split at h
  ·rename_i hg
   rw [hg]
   simp only
   generalize hq : nW P nt (nY ovs i) o st = q at h
   obtain ⟨st1, p1⟩ := q
   obtain ⟨h1, h2⟩ := h
   have h3 := qz r (i + 1) st1 k h2
   exact ⟨⟨h1, h3.1⟩, h3.2⟩
  ·rename_i hg
   rw [hg]
   simp only
   generalize hq : pg nt st o.dst = q at h
   obtain ⟨st1, p1⟩ := q
   obtain ⟨h1, h2⟩ := h
   have h3 := qz r (i + 1) st1 k h2
   exact ⟨⟨h1, h3.1⟩, h3.2⟩
  ·exact h.elim
structure Mk : Type 1 where
 make ::
 d : D
 b : aE
 kl : Option Nat
abbrev mr (d : D) (b : aE) : Mk := .make d b none
def Mk.kil (k : Mk) : Option Nat := match k.b with | .var _ _ => none | _ => k.kl
def Mk.fil (k : Mk) : Option Nat := match k.b with | .var _ _ => k.kl | _ => none
theorem Hq {k : Mk} {i : Nat} (h : k.kil = some i) : k.kl = some i := by
 unfold Mk.kil at h
 split at h
 ·cases h
 ·exact h
theorem rF {k : Mk} {i : Nat} (h : k.fil = some i) : k.kl = some i := by
 unfold Mk.fil at h
 split at h
 ·exact h
 ·cases h
theorem rG {k : Mk} (h : k.kl = none) : k.fil = none := by
 unfold Mk.fil
 split
 ·exact h
 ·rfl
theorem Fo {k : Mk} (h : k.b.isArr = true ∨ k.b = .dead) : k.fil = none := by
 unfold Mk.fil
 split
 ·rename_i T cs hb
  rcases h with h | h <;> rw [hb] at h <;> cases h
 ·rfl
theorem Hr {k : Mk} (h : k.fil = none) : k.kil = k.kl := by
 unfold Mk.fil at h
 unfold Mk.kil
 cases hb : k.b <;> rw [hb] at h <;> first | rfl | exact h.symm
def nK : Option Nat → (Option Nat → Prop) → Prop
 | none, k => k none
 | some i, k => k (some i)
theorem GZ (o : Option Nat) (k : Option Nat → Prop) : nK o k = k o := by cases o <;> rfl
def Fp (H : List aE) (fz : Bool) (E sz : Nat) {α : Type} (enc : α → List V) (d : α) (l : List α) (kl : Option Nat) (p : Prop) : Option (Mk × Prop) := match fz with
 | false => some (.make (.own H.length) (.arr E sz enc d l) kl, p)
 | true => some (.make (.v (.sl sz enc d l)) .dead kl, p)
def ib : Option (Mk × Prop) := some (mr .junk .dead, False)
def CR (P : Program) (H : List aE) (fz : Bool) (E sz : Nat) {α : Type} (enc : α → List V) (d : α) (l : List α) (t : TypeId) (s x : D) : Option (Mk × Prop) := match P.underlying t with
 | some (.slice E0) => match hT P E0, tG H (aF P E0) x with
  | some z, some new => match cj P E0 && Nat.beq z.length (aF P E0) && Nat.ble 1 (aF P E0) && Nat.ble (hX P E0) 1024 && (Nat.beq E E0 && Nat.beq sz (aF P E0)) with
   | true => match s with
    | .own id => match H[id]? with
     | some (.arr E' sz' enc0 _ l0) => match Nat.beq E' E0 && Nat.beq sz' (aF P E0) && D.free id x with
      | true => Fp H fz E sz enc d l (some id) (l0.length + new.length ≤ 137438953472 ∧ l0.map enc0 ++ new = l.map enc)
      | false => ib
     | _ => ib
    | .nils => Fp H fz E sz enc d l none (new.length ≤ 137438953472 ∧ new = l.map enc)
    | _ => ib
   | false => ib
  | _, _ => ib
 | _ => ib
def CT (P : Program) (H : List aE) (ρ : Operand → D) (ov : Ov) (op : Op) : Option (Mk × Prop) := match op with
 | .call ⟨.value f, args, _⟩ => match ov, ρ f with
  | .ownd as r B, .fn (.func g) first cap => match jp P g && (yc r && (B.isArr && fk (first ++ args.toList.map ρ ++ cap))) with
   | true => some (mr (r.up H.length) B, qv P g H (first ++ args.toList.map ρ ++ cap) as r B)
   | false => ib
  | _, _ => none
 | .call ⟨.builtin .append, args, ats⟩ => match ov, args.toList, ats.toList with
  | .app fz E sz enc d l, [s, x], [t, t'] => match Nat.beq t t' with
   | true => CR P H fz E sz enc d l t (ρ s) (ρ x)
   | false => ib
  | _, _, _ => none
 | .buildSlice t len parts => match ov with
  | .app false E sz enc d l => match pi P H (.box E sz enc d l) t len (parts.toList.map fun p => (p.1, ρ p.2)) with
   | (.v _, p) => some (mr (.own H.length) (.arr E sz enc d l), p)
   | _ => ib
  | _ => none
 | _ => none
def Fq (P : Program) (H : List aE) (ρ : Operand → D) (ov : Ov) (op : Op) : Mk × Prop :=
 match op with
 | .alloc T => match hT P T with
  | some z => match D.freeL H.length z with
   | true => (mr (.ptr H.length 0 0 0) (.var T z), True)
   | false => (mr (.junk) (.dead), False)
  | none => (mr (.junk) (.dead), False)
 | .box T x => match jg H (ρ x) with
  | some cs => match D.freeL H.length cs with
   | true => (mr (.ptr H.length 0 0 0) (.var T cs), True)
   | false => (mr (.junk) (.dead), False)
  | none => (mr (.junk) (.dead), False)
 | .makeSlice t l c => match P.underlying t, ρ l, ρ c with
  | some (.slice E), .v (.int _ n), .v (.int _ m) => match hT P E with
   | some z => match cj P E && Nat.beq z.length (aF P E) && Nat.ble 1 (aF P E) && Nat.ble (hX P E) 1024 with
    | true => match ov with
     | .box E' sz' enc' d' l' => match Nat.beq E E' && Nat.beq (aF P E) sz' with
      | true => (mr (.own H.length) (.arr E (aF P E) enc' d' l'), (0 ≤ n ∧ n ≤ m ∧ m ≤ 137438953472) ∧ l'.length = n.toNat ∧ ∀ x ∈ l', dy z (enc' x))
      | false => (mr (.junk) (.dead), False)
     | .frz E' sz' enc' d' l' => match Nat.beq E E' && Nat.beq (aF P E) sz' with
      | true => (mr (.v (.sl (aF P E) enc' d' l')) (.dead), (0 ≤ n ∧ n ≤ m ∧ m ≤ 137438953472) ∧ l'.length = n.toNat ∧ ∀ x ∈ l', dy z (enc' x))
      | false => (mr (.junk) (.dead), False)
     | _ => (mr (.junk) (.dead), False)
    | false => (mr (.junk) (.dead), False)
   | none => (mr (.junk) (.dead), False)
  | _, _, _ => (mr (.junk) (.dead), False)
 | .makeMap t none => match ov with
  | .mbox t' ag enc d _ => match Nat.beq t t' with
   | true => (mr (.own H.length) (.mpb t ag enc d []), True)
   | false => (mr (.junk) (.dead), False)
  | _ => (mr (.junk) (.dead), False)
 | op => match CT P H ρ ov op with
  | some q => q
  | none => match Kx P H ρ ov op with
   | (d, p) => (mr (d) (.dead), p)
def jR : Op → Bool
 | .store _ _ _ => true
 | _ => false
def yo (P : Program) (H : List aE) (t : TypeId) (a x : D) : Mk × Prop := match a, jg [] x with
 | .ptr id i _ off, some new => match H[id]? with
  | some (.var T cs) => match cj P t && Nat.beq new.length (aF P t) && new.all (sW []) && (Nat.beq i 0 && Nat.ble (off + new.length) cs.length) with
   | true => (.make (.tup []) (.var T (fh cs new off)) (some id), True)
   | false => (mr .junk .dead, False)
  | _ => (mr .junk .dead, False)
 | _, _ => (mr .junk .dead, False)
def tP (P : Program) (H : List aE) (ρ : Operand → D) (ov : Ov) (op : Op) : Mk × Prop := match op with
 | .store t a x => yo P H t (ρ a) (ρ x)
 | op => Fq P H ρ ov op
theorem CU {P : Program} {H : List aE} {ρ : Operand → D} {ov : Ov} {op : Op} (h : jR op = false) : tP P H ρ ov op = Fq P H ρ ov op := by
 cases op <;> first | rfl | cases h
theorem yp {x : D} {new : List D} (h : jg [] x = some new) (H : List aE) : jg H x = some new := by
 cases x <;> first | exact h | (simp [jg] at h)
theorem CV {x : D} (h : sW [] x = true) (H : List aE) : sW H x = true := by
 cases x <;> first | exact h | (simp [sW] at h)
theorem Fr {new : List D} (h : new.all (sW []) = true) (H : List aE) : new.all (sW H) = true := by
 rw [List.all_eq_true] at h ⊢
 exact fun x hx => CV (h x hx) H
theorem yq {P : Program} {H : List aE} {t : TypeId} {a x : D} {k : Mk} {p : Prop} (h : yo P H t a x = (k, p)) (hp : p) :
  ∃ (id : Nat) (T : TypeId) (cs cs' : List D), H[id]? = some (.var T cs) ∧ k = .make (.tup []) (.var T cs') (some id) ∧
   ∀ (st : St), st.heap[id]? = some (.var T cs) → rp P st .none t a x = (⟨st.env, st.heap.set id (.var T cs')⟩, True) := by
 unfold yo at h
 split at h
 ·rename_i id i sz off new hnew
  split at h
  ·rename_i T cs hbox
   split at h
   ·rename_i hc
    simp only [Prod.mk.injEq] at h
    obtain ⟨rfl, rfl⟩ := h
    refine ⟨id, T, cs, _, hbox, rfl, fun st hst => ?_⟩
    simp only [Bool.and_eq_true] at hc
    obtain ⟨⟨⟨h1, h2⟩, h3⟩, h4, h5⟩ := hc
    unfold rp
    rw [yp hnew st.heap]
    simp only [h1, h2, Fr h3 st.heap, Bool.and_self, if_true, hst, h4, h5]
   ·cases h; exact hp.elim
  ·cases h; exact hp.elim
 ·cases h; exact hp.elim
section
variable {P : Program} {S : Nat → Prop} {μ : Nat → Value} {w : World}
theorem wC {E : TypeId} {z : List D} {i : TypeInfo} {v : Value} {n m : Int} {α : Type} {enc : α → List V} {d : α} {l : List α} {μ' : Nat → Value} (hz : hT P E = some z) (hi : P.info? E = some i) (hv : i.zero = some v) (hzz : z = v.cells.toList.map D.ofVal1) (hsz : i.size = aF P E)
  (hzl : z.length = aF P E) (hs1 : 1 ≤ aF P E) (h0 : 0 ≤ n) (hnm : n ≤ m) (hm : m ≤ 137438953472) (hlen : l.length = n.toNat) (hrows : ∀ x ∈ l, dy z (enc x)) :
  aP S μ' (w.alloc (.cells (madeCells v.cells (m.toNat * i.size)) E)) (.slice (some ⟨w.heap.size, 0, none⟩) n.toNat m.toNat) (.arr E (aF P E) enc d l) := by
 have hzr : aK S μ' w z v.cells := by
  rw [hzz]
  refine ⟨by simp, fun j y u hy hu => ?_⟩
  simp only [List.getElem?_map, Array.getElem?_toList, hu, Option.map_some, Option.some.injEq] at hy
  subst hy
  exact ar.ofVal1 S μ' w u
 have hvs : v.cells.size = aF P E := by rw [hzr.1, hzl]
 refine aP.arr_mk ?_
 refine ⟨fun k x hx => ?_, (madeCells v.cells (m.toNat * i.size)).toList.take (n.toNat * aF P E), ?_, fun k x j y hx hy => ?_⟩
 ·obtain ⟨q, hq, rfl⟩ := du hx
  rw [← (eT (hrows q (List.mem_of_getElem? hq))).1, hzl]
 ·have hle : n.toNat * aF P E ≤ m.toNat * i.size := by rw [hsz]; exact Nat.mul_le_mul_right _ (by omega)
  refine ⟨by simp [size_madeCells, hlen]; omega, .inr ⟨w.heap.size, m.toNat, madeCells v.cells (m.toNat * i.size), by simp [hlen], Nat.zero_le _, heap_alloc_new w _, by simp [hlen]; omega, by simp only [maxLen]; omega, by rw [size_madeCells, hsz], by simp [hlen]⟩⟩
 ·obtain ⟨q, hq, rfl⟩ := du hx
  have hkl : k < n.toNat := by rw [← hlen]; exact (List.getElem?_eq_some_iff.1 hq).1
  obtain ⟨r1, r2⟩ := eT (hrows q (List.mem_of_getElem? hq))
  obtain ⟨d, hd, hdy⟩ := r2 j y hy
  have hj : j < aF P E := by rw [← hzl]; exact (List.getElem?_eq_some_iff.1 hd).1
  have hjv : j < v.cells.size := by omega
  have hkk : (k + 1) * aF P E ≤ n.toNat * aF P E := Nat.mul_le_mul_right _ hkl
  rw [Nat.succ_mul] at hkk
  have hle : n.toNat * aF P E ≤ m.toNat * i.size := by rw [hsz]; exact Nat.mul_le_mul_right _ (by omega)
  refine ⟨v.cells[j], ?_, (kN hdy (hzr.2 j d _ hd (Array.getElem?_eq_getElem hjv))).stable (fun _ h _ => h) (fun b hb hl => Below.heap_alloc w _ b hl) (by simp)⟩
  rw [List.getElem?_take, if_pos (by omega), Array.getElem?_toList]
  unfold madeCells
  rw [Array.getElem?_map, Array.getElem?_range, if_pos (by omega)]
  simp only [Option.map_some, Option.some.injEq]
  rw [hvs, Nat.mul_add_mod_of_lt' hj]
  simp [hjv]
def Hs (S : Nat → Prop) (μ : Nat → Value) (w : World) (H : List aE) (k : Mk) (u : Value) (w' : World) : Prop :=
 (k.kl = none ∧ Below w.heap.size w w' ∧ ((k.b = .dead ∧ ar (fun b => S b ∨ w.heap.size ≤ b) μ w' k.d u) ∨ (∃ obj, k.b.live = true ∧ w' = w.alloc obj ∧ aP S (bt μ H.length u) w' u k.b ∧ ar S (bt μ H.length u) w' k.d u ∧ ∀ b, az u = some b → b = w.heap.size) ∨
  (∃ (S2 : Nat → Prop) (μ1 : Nat → Value) (u0 : Value), k.b.isArr = true ∧ (∀ b, S b → S2 b) ∧ (∀ b, S2 b → S b ∨ w.heap.size ≤ b) ∧ (∀ b, S2 b → b < w'.heap.size) ∧ aP S2 μ1 w' u0 k.b ∧ ar S2 (bt μ H.length u0) w' k.d u ∧ ∀ b, az u0 = some b → w.heap.size ≤ b ∧ ¬ S2 b))) ∨
 (∃ (id : Nat) (A B : aE), k.kl = some id ∧ H[id]? = some A ∧ A.isArr = true ∧ B.isArr = true ∧ w.grownBy w' (az (μ id)) ∧ aP S μ w' u B ∧ (∀ b, az u = some b → az (μ id) = some b ∨ w.heap.size ≤ b) ∧
  ((k.b = B ∧ k.d = .own H.length) ∨ ∃ (E sz : Nat) (α : Type) (enc : α → List V) (d : α) (l : List α), B = .arr E sz enc d l ∧ k.b = .dead ∧ k.d = .v (.sl sz enc d l)))
theorem yr {H : List aE} (hH : a7 S μ w H) {E0 sz0 : Nat} {α : Type} {enc0 : α → List V} {d0 : α} {l0 : List α} {t : TypeId} {len : Nat} {parts : List (Nat × D)} {uparts : List (Nat × Value)} (h1 : parts.map (·.1) = uparts.map (·.1))
  (h2 : ∀ (j : Nat) (x : Nat × D) (u : Nat × Value), parts[j]? = some x → uparts[j]? = some u → ar S μ w x.2 u.2) (hS : ∀ b, S b → b < w.heap.size) {d : D} {p : Prop} (hp : pi P H (.box E0 sz0 enc0 d0 l0) t len parts = (d, p)) (hob : p) (hne : ∃ x, d = .v x) :
  ∃ vs, (Instr.buildSlice t len uparts.toArray).run P w = .ok (.slice (some ⟨w.heap.size, 0, none⟩) len len) (w.alloc (.cells vs E0)) ∧ aP S μ (w.alloc (.cells vs E0)) (.slice (some ⟨w.heap.size, 0, none⟩) len len) (.arr E0 sz0 enc0 d0 l0) := by
 unfold pi at hp
 split at hp
 ·rename_i E hu
  split at hp
  ·rename_i z hz
   split at hp
   ·rename_i hc
    simp only [Bool.and_eq_true, Nat.beq_eq, Nat.ble_eq] at hc
    obtain ⟨⟨⟨hk, hzl⟩, hs1⟩, hcap⟩ := hc
    obtain ⟨i, v, hi, hv, hzz, hsz, hby⟩ := iW hz
    split at hp
    ·rename_i cells hf
     have hzr : aK S μ w z v.cells := by
      rw [hzz]
      refine ⟨by simp, fun j y u hy hu => ?_⟩
      simp only [List.getElem?_map, Array.getElem?_toList, hu, Option.map_some, Option.some.injEq] at hy
      subst hy
      exact ar.ofVal1 S μ w u
     have hflat := pc (P := P) hzr hzl (by omega) len
     obtain ⟨vs, hfill, hvs⟩ := eO hH parts uparts _ cells _ h1 h2 hflat hf
     rw [← hsz] at hfill
     have hrun := hY (P := P) (w := w) hu hi hv (by rw [hsz]; exact hcap) hfill
     have hcl : cells.length = len * aF P E := by
      have : ∀ (parts : List (Nat × D)) (c0 out : List D), gi H (fun i => some (i * aF P E, aF P E)) c0 parts = some out → out.length = c0.length := by
       intro parts
       induction parts with
       | nil => intro c0 out h; simp only [gi, Option.some.injEq] at h; rw [h]
       | cons q r ih =>
        intro c0 out h
        obtain ⟨k, x⟩ := q
        unfold gi at h
        split at h
        ·split at h
         ·rename_i hcond
          simp only [Bool.and_eq_true, Nat.ble_eq] at hcond
          rw [ih _ _ h]
          simp [fh]
          omega
         ·cases h
        ·cases h
      rw [this _ _ _ hf]
      simp [hzl]
     have hlen : len ≤ maxLen := by
      have : len * 1 ≤ len * aF P E := Nat.mul_le_mul_left _ hs1
      simp only [maxLen]
      omega
     simp only at hp
     split at hp
     ·rename_i hc
      simp only [Bool.and_eq_true, Nat.beq_eq] at hc
      obtain ⟨rfl, rfl⟩ := hc
      simp only [Prod.mk.injEq] at hp
      obtain ⟨rfl, rfl⟩ := hp
      refine ⟨vs, hrun, ?_⟩
      obtain ⟨q1, q2⟩ := jO hob
      have hA : eH S (w.alloc (.cells vs E)) E (aF P E) (l0.map enc0) (.slice (some ⟨w.heap.size, 0, none⟩) len len) := by
       refine qx hvs hcl hlen (by rw [← q1]; simp [mI]) (fun i x hx => ?_) hS
       obtain ⟨r, hr, hrow⟩ := q2 i x hx
       obtain ⟨r1, r2⟩ := eT hrow
       obtain ⟨hin, rfl⟩ := jq _ _ _ hr
       refine ⟨?_, fun j y hy => ?_⟩
       ·rw [← r1, List.length_take, List.length_drop, hcl]
        have : (i + 1) * aF P E ≤ len * aF P E := Nat.mul_le_mul_right _ hin
        rw [Nat.succ_mul] at this
        omega
       ·obtain ⟨d, hd, hdy⟩ := r2 j y hy
        exact ⟨d, jP hr hd, fun u hu => kN hdy hu⟩
      exact hA.box rfl
     ·cases hp; exact hob.elim
    ·cases hp; exact hob.elim
   ·cases hp; exact hob.elim
  ·cases hp; exact hob.elim
 ·cases hp; exact hob.elim
theorem wD {H : List aE} {fz : Bool} {E sz : Nat} {α : Type} {enc : α → List V} {d : α} {l : List α} {kl : Option Nat} {q : Prop} {k : Mk} {p : Prop} (h : Fp H fz E sz enc d l kl q = some (k, p)) :
  p = q ∧ k.kl = kl ∧ ((k.b = .arr E sz enc d l ∧ k.d = .own H.length) ∨ (k.b = .dead ∧ k.d = .v (.sl sz enc d l))) := by
 unfold Fp at h
 cases fz <;> simp only [Option.some.injEq, Prod.mk.injEq] at h <;> obtain ⟨rfl, rfl⟩ := h
 ·exact ⟨rfl, rfl, .inl ⟨rfl, rfl⟩⟩
 ·exact ⟨rfl, rfl, .inr ⟨rfl, rfl⟩⟩
theorem cY {k : Mk} {p : Prop} (h : ib = some (k, p)) : p = False := by
 simp only [ib, Option.some.injEq, Prod.mk.injEq] at h
 exact h.2.symm
theorem wE {H : List aE} (hH : a7 S μ w H) (hS : ∀ b, S b → b < w.heap.size) {fz : Bool} {E sz : Nat} {α : Type} {enc : α → List V} {d : α} {l : List α} {t ty : TypeId} {s x : D} {us ux : Value} (hs : ar S μ w s us) (hx : ar S μ w x ux) {k : Mk} {p : Prop}
  (hp : CR P H fz E sz enc d l t s x = some (k, p)) (hob : p) : ∃ u w', (Builtin.append_ #[t, t] ty #[us, ux]).run P w = .ok u w' ∧ Hs S μ w H k u w' := by
 unfold CR at hp
 split at hp
 case h_2 => rw [cY hp] at hob; exact hob.elim
 rename_i E0 hu
 split at hp
 case h_2 => rw [cY hp] at hob; exact hob.elim
 rename_i z new hz hnew
 split at hp
 case h_2 => rw [cY hp] at hob; exact hob.elim
 rename_i hcond
 simp only [Bool.and_eq_true, Nat.beq_eq, Nat.ble_eq] at hcond
 obtain ⟨⟨⟨⟨hk, hzl⟩, hs1⟩, hby1⟩, rfl, rfl⟩ := hcond
 obtain ⟨i, v, hi, hv, hzz, hsz, hby⟩ := iW hz
 have hvs : v.cells.size = i.size := by rw [hsz, ← hzl, hzz]; simp
 obtain ⟨pa, c, news, rfl, n1, n2, n3, n4, n5, n6⟩ := iX hH hs1 hnew hx
 rw [← hsz] at n2 n6 n5
 have bytes : ∀ k, k ≤ 137438953472 → k * i.bytes ≤ 140737488355328 := by
  intro k hk
  have : k * i.bytes ≤ 137438953472 * 1024 := Nat.mul_le_mul hk (by omega)
  omega
 split at hp
 ·rename_i id
  split at hp
  case h_2 => rw [cY hp] at hob; exact hob.elim
  rename_i E' sz' β enc0 d0 l0 hbox
  split at hp
  case h_2 => rw [cY hp] at hob; exact hob.elim
  rename_i hcc
  simp only [Bool.and_eq_true, Nat.beq_eq] at hcc
  obtain ⟨⟨rfl, rfl⟩, hfx⟩ := hcc
  obtain ⟨rfl, hkl, hval⟩ := wD hp
  obtain ⟨hlen, heq⟩ := hob
  have hus := cM hs
  subst hus
  obtain ⟨r0, xs, r1, r2⟩ := eH.of (hH.box id _ hbox)
  simp only [List.length_map] at r1
  have hmax : l0.length + new.length ≤ maxLen := by simp only [maxLen]; omega
  obtain ⟨v', w', hrun, ho, hg, hblk⟩ := eF (P := P) (w := w) t ty E' i v hu hi hv hvs (by rw [hsz]; exact r1) n1 n2 n3 n4 hmax (bytes _ hlen)
  have hown : (μ id).ownBlock = az (μ id) := by
   obtain ⟨p', c', hm, _⟩ := ce (hH.box id _ hbox)
   rw [hm]
   cases p' <;> rfl
  have hSw : ∀ b, S b → b < w.heap.size → w'.heap[b]? = w.heap[b]? := fun b hb hl => hg.block b hl (fun e => hH.notS id _ b hbox rfl (by rw [← hown]; exact e.symm) hb)
  have hA : eH S w' E' (aF P E') (l0.map enc0 ++ new) v' := by
   rw [hsz] at ho n2 n5 n6
   refine eH.append r0 (by rw [r1.1]; simp) (fun k x j y hx hy => ?_) n5 (fun k x j y hx hy => ?_) (by simpa using ho)
   ·obtain ⟨z, hz, hr⟩ := r2 k x j y hx hy
    exact ⟨z, hz, hr.stable (fun _ h _ => h) hSw hg.size⟩
   ·obtain ⟨z, hz, hr⟩ := n6 k x j y hx hy
    exact ⟨z, hz, hr.stable (fun _ h _ => h) hSw hg.size⟩
  rw [heq] at hA
  have hB : aP S μ w' v' (.arr E' (aF P E') enc d l) := hA.box rfl
  have hv'b : ∀ b, az v' = some b → az (μ id) = some b ∨ w.heap.size ≤ b := by
   intro b hb
   have hvv : v'.ownBlock = az v' := by
    rcases ho.2 with ⟨rfl, _⟩ | ⟨g, cap, cur, rfl, _⟩ <;> rfl
   rcases hblk with hblk | hblk
   ·exact .inl (by rw [← hown, ← hblk, hvv]; exact hb)
   ·rw [hvv, hb] at hblk
    cases hblk
    exact .inr (Nat.le_refl _)
  refine ⟨v', w', hrun, .inr ⟨id, _, _, hkl, hbox, rfl, rfl, by rw [← hown]; exact hg, hB, hv'b, ?_⟩⟩
  rcases hval with ⟨e1, e2⟩ | ⟨e1, e2⟩
  ·exact .inl ⟨e1, e2⟩
  ·exact .inr ⟨_, _, _, _, _, _, rfl, e1, e2⟩
 ·obtain ⟨rfl, hkl, hval⟩ := wD hp
  obtain ⟨hlen, heq⟩ := hob
  cases hs
  obtain ⟨v', w', hrun, ho, hg, hblk⟩ := eF (P := P) (w := w) t ty E i v hu hi hv hvs (World.ownsRow_nil w 0 E i.size) n1 n2 n3 n4 (by simp only [maxLen]; omega) (bytes _ (by omega))
  have hg' : w.grownBy w' none := hg
  have hSw : ∀ b, S b → b < w.heap.size → w'.heap[b]? = w.heap[b]? := fun b hb hl => hg'.block b hl (by simp)
  have hA : eH S w' E (aF P E) ([] ++ new) v' := by
   rw [hsz] at ho n2 n5 n6
   refine eH.append (xs := []) (fun k x hx => by simp at hx) (by simp) (fun k x j y hx => by simp at hx) n5 (fun k x j y hx hy => ?_) (by simpa using ho)
   obtain ⟨z, hz, hr⟩ := n6 k x j y hx hy
   exact ⟨z, hz, hr.stable (fun _ h _ => h) hSw hg'.size⟩
  rw [List.nil_append, heq] at hA
  have hB : aP S μ w' v' (.arr E (aF P E) enc d l) := hA.box rfl
  have hvb : ∀ b, az v' = some b → w.heap.size ≤ b := by
   intro b hb
   have hvv : v'.ownBlock = az v' := by
    rcases ho.2 with ⟨rfl, _⟩ | ⟨g, cap, cur, rfl, _⟩ <;> rfl
   rcases hblk with hblk | hblk
   ·rw [hvv, hb] at hblk; cases hblk
   ·rw [hvv, hb] at hblk; cases hblk; exact Nat.le_refl _
  have hbel : Below w.heap.size w w' := ⟨hg'.os, hg'.tape, hg'.output, hg'.size, fun k hk => hg'.block k hk (by simp)⟩
  refine ⟨v', w', hrun, .inl ⟨hkl, hbel, ?_⟩⟩
  rcases hval with ⟨e1, e2⟩ | ⟨e1, e2⟩
  ·refine .inr (.inr ⟨S, μ, v', by rw [e1]; rfl, fun _ h => h, fun _ h => .inl h, fun b hb => Nat.lt_of_lt_of_le (hS b hb) hg'.size, by rw [e1]; exact hB, ?_, fun b hb => ⟨hvb b hb, fun hSb => by have := hS b hSb; have := hvb b hb; omega⟩⟩)
   rw [e2]
   have := ar.own (S := S) (μ := bt μ H.length v') (w := w') H.length
   rwa [aD] at this
  ·refine .inl ⟨e1, ?_⟩
   rw [e2]
   exact .v _ _ (f7 (S' := fun b => S b ∨ w.heap.size ≤ b) hB (fun b hb => Or.inl hb) (fun b hb => Or.inr (hvb b hb)) (fun b hb => Nat.lt_of_lt_of_le (hS b hb) hg'.size))
 ·rw [cY hp] at hob; exact hob.elim
theorem wF {H : List aE} (hH : a7 S μ w H) (hS : ∀ b, S b → b < w.heap.size) {ρ : Operand → D} {ρ' : Operand → Value} (hρ : ∀ x, ar S μ w (ρ x) (ρ' x)) {ov : Ov} {o : Oper} {k : Mk} {p : Prop} (hp : CT P H ρ ov o.op = some (k, p)) (hob : p)
  {R : Value → World → Prop} (hR : ∀ u w', Hs S μ w H k u w' → R u w') : mB P R ((execOp ρ' o).run P w) := by
 unfold CT at hp
 split at hp
 ·rename_i f args ats ho
  split at hp
  ·rename_i as r B g first cap hf
   split at hp
   ·rename_i hc
    simp only [Bool.and_eq_true] at hc
    obtain ⟨hgo, hr, hBA, hno⟩ := hc
    simp only [Option.some.injEq, Prod.mk.injEq] at hp
    obtain ⟨rfl, rfl⟩ := hp
    have hfv := hf ▸ hρ f
    generalize hfe : ρ' f = uf at hfv
    cases hfv with
    | fn _ _ _ us vs h1 h2 h3 h4 =>
     have hrun : (execOp ρ' o).run P w = .ok (.enter g (us ++ args.map ρ' ++ vs)) w := by
      simp [execOp, ho, resolve, hfe, Deferred.ofValue, invoke, bC hgo]
     rw [hrun]
     have harg : aK S μ w (args.toList.map ρ) (args.map ρ') := by
      refine ⟨by simp, fun j y z hy hz => ?_⟩
      simp only [List.getElem?_map, Array.getElem?_toList, Array.getElem?_map] at hy hz
      cases hj : args[j]? with
      | none => rw [hj] at hy; cases hy
      | some x => rw [hj] at hy hz; simp at hy hz; subst hy hz; exact hρ x
     have hall := aK.app (aK.app ⟨h1, h2⟩ harg) ⟨h3, h4⟩
     obtain ⟨as', hc', hus'⟩ : ∃ as', ap P g as' [] false r [B] ∧ aK S μ w as' (us ++ args.map ρ' ++ vs) := by
      cases as with
      | none => exact ⟨_, hob, hall⟩
      | some as => exact ⟨as, hob.2, lz hH (fun _ h => h) hS (.inr hno) hob.1 hall⟩
     refine mB.enter ((hc' S μ w _ hS ⟨fun id B hB => by simp at hB, fun i j A B b hA => by simp at hA, fun i A b hA => by simp at hA⟩ hus').mono ?_)
     rintro e w' ⟨u, μ', S', rfl, q1, q2, q3, q4, q5, q6, q7, q8, q9, q10, q11, _⟩
     have hl : B.live = true := by cases B <;> first | rfl | cases hBA
     refine ⟨u, rfl, hR u w' (.inl ⟨rfl, ⟨q1, q2, q3, q4, fun k hk => q5 k hk (fun i A hA => by simp at hA)⟩, .inr (.inr ⟨S', μ', μ' 0, hBA, q6, q7, q8, q10.box 0 B rfl, yd q9 hr (aD _ _ _), fun b hb => ⟨?_, q10.notS 0 B b rfl hl hb⟩⟩)⟩)⟩
     rcases q11 0 B b rfl hl hb with hb | ⟨j, A', hA', _⟩
     ·exact hb
     ·simp at hA'
   ·rw [cY hp] at hob; exact hob.elim
  ·cases hp
 ·rename_i args ats ho
  split at hp
  ·rename_i fz E sz α enc d l s x t t' ha ht
   split at hp
   ·rename_i hc
    rw [Nat.beq_eq] at hc
    subst hc
    have ea : args = #[s, x] := Array.ext' (by simpa using ha)
    have et : ats = #[t, t] := Array.ext' (by simpa using ht)
    subst ea et
    obtain ⟨u, w', h1, h2⟩ := wE (ty := o.type) hH hS (hρ s) (hρ x) hp hob
    refine mB.of (v := u) (w' := w') ?_ (hR u w' h2)
    simp only [execOp, ho, resolve, invoke, builtin, List.map_toArray, List.map_cons, List.map_nil, Sem.run_bind, Sem.run_pure, Result.andThen_ok, h1]
   ·rw [cY hp] at hob; exact hob.elim
  ·cases hp
 ·rename_i t len parts ho
  split at hp
  ·rename_i E sz α enc d l
   split at hp
   ·rename_i y q hq
    simp only [Option.some.injEq, Prod.mk.injEq] at hp
    obtain ⟨rfl, rfl⟩ := hp
    obtain ⟨vs, h1, h2⟩ := yr hH (uparts := parts.toList.map fun p => (p.1, ρ' p.2)) (by simp) (fun j x u hx hu => by
     simp only [List.getElem?_map, Array.getElem?_toList] at hx hu
     cases hj : parts[j]? with
     | none => rw [hj] at hx; cases hx
     | some q => rw [hj] at hx hu; simp at hx hu; subst hx hu; exact hρ q.2) hS hq hob ⟨_, rfl⟩
    have he : parts.map (fun (i, x) => (i, ρ' x)) = (parts.toList.map fun p => (p.1, ρ' p.2)).toArray := Array.ext' (by simp)
    rw [← he] at h1
    refine mB.of (v := .slice (some ⟨w.heap.size, 0, none⟩) len len) (w' := w.alloc (.cells vs E)) ?_ (hR _ _ (.inl ⟨rfl, (Below.refl _ _).alloc (Nat.le_refl _) _, .inr (.inl ⟨_, rfl, rfl, h2.arrMu rfl, ?_, fun b hb => by simp [az] at hb; exact hb.symm⟩)⟩))
    ·simp only [execOp, ho, Sem.run_bind, h1, Result.andThen_ok, Sem.run_pure]
    ·have := ar.own (S := S) (μ := bt μ H.length (Value.slice (some ⟨w.heap.size, 0, none⟩) len len)) (w := w.alloc (.cells vs E)) H.length
     rwa [aD] at this
   ·rw [cY hp] at hob; exact hob.elim
  ·cases hp
 ·cases hp
theorem yu {H : List aE} (hH : a7 S μ w H) (hS : ∀ b, S b → b < w.heap.size) {ρ : Operand → D} {ρ' : Operand → Value} (hρ : ∀ x, ar S μ w (ρ x) (ρ' x)) {ov : Ov} {o : Oper} {k : Mk} {p : Prop} (hp : Fq P H ρ ov o.op = (k, p)) (hob : p)
  {R : Value → World → Prop} (hR : ∀ u w', Hs S μ w H k u w' → R u w') : mB P R ((execOp ρ' o).run P w) := by
 unfold Fq at hp
 split at hp
 ·rename_i T ho
  split at hp
  ·rename_i z hz
   split at hp
   case h_2 => cases hp; exact hob.elim
   rename_i hfr
   simp only [Prod.mk.injEq] at hp
   obtain ⟨rfl, rfl⟩ := hp
   obtain ⟨v, hv1, hv2⟩ := gj (P := P) (S := S) (μ := μ) (w := w) hz
   refine mB.of (v := .pointer (some ⟨w.heap.size, 0, none⟩)) (w' := w.alloc (.cells v.cells T)) ?_ (hR _ _ (.inl ⟨rfl, (Below.refl _ _).alloc (Nat.le_refl _) _, .inr (.inl ⟨_, rfl, rfl, ?_, ?_, fun b hb => by simp [az] at hb; exact hb.symm⟩)⟩))
   ·simp [execOp, ho, Instr.alloc, Sem.run_bind, hv1, newVar, newRow, newObj, Sem.run]
   ·refine ⟨w.heap.size, v.cells, rfl, heap_alloc_new w _, hv2.1, fun j y x hy hx => ?_⟩
    exact (hv2.2 j y x hy hx).stable (fun _ h _ => h) (fun b hb hl => Below.heap_alloc w _ b hl) (by simp) (fun id hid => a6 _ _ (fun e => by rw [e, D.freeL_get hfr hy] at hid; cases hid))
   ·exact .ptr _ 0 0 0 _ (by rw [aD]; rfl)
  ·cases hp; exact hob.elim
 ·rename_i T x ho
  split at hp
  ·rename_i cs hcs
   split at hp
   case h_2 => cases hp; exact hob.elim
   rename_i hfr
   simp only [Prod.mk.injEq] at hp
   obtain ⟨rfl, rfl⟩ := hp
   have hv2 := gL hH (hρ x) hcs
   refine mB.of (v := .pointer (some ⟨w.heap.size, 0, none⟩)) (w' := w.alloc (.cells (ρ' x).cells T)) ?_ (hR _ _ (.inl ⟨rfl, (Below.refl _ _).alloc (Nat.le_refl _) _, .inr (.inl ⟨_, rfl, rfl, ?_, ?_, fun b hb => by simp [az] at hb; exact hb.symm⟩)⟩))
   ·simp [execOp, ho, Instr.box, newVar, newRow, newObj, Sem.run]
   ·refine ⟨w.heap.size, (ρ' x).cells, rfl, heap_alloc_new w _, hv2.1, fun j y x hy hx => ?_⟩
    exact (hv2.2 j y x hy hx).stable (fun _ h _ => h) (fun b hb hl => Below.heap_alloc w _ b hl) (by simp) (fun id hid => a6 _ _ (fun e => by rw [e, D.freeL_get hfr hy] at hid; cases hid))
   ·exact .ptr _ 0 0 0 _ (by rw [aD]; rfl)
  ·cases hp; exact hob.elim
 ·rename_i t l c ho
  split at hp
  ·rename_i E kl n kc m hu hl0 hc0
   split at hp
   ·rename_i z hz
    split at hp
    ·rename_i hcond
     simp only [Bool.and_eq_true, Nat.beq_eq, Nat.ble_eq] at hcond
     obtain ⟨⟨⟨hk, hzl⟩, hs1⟩, hby1⟩ := hcond
     obtain ⟨i, v, hi, hv, hzz, hsz, hby⟩ := iW hz
     have hl := hρ l
     have hc := hρ c
     rw [hl0] at hl
     rw [hc0] at hc
     have core : (0 ≤ n ∧ n ≤ m ∧ m ≤ 137438953472) → (execOp ρ' o).run P w = .ok (.value (.slice (some ⟨w.heap.size, 0, none⟩) n.toNat m.toNat)) (w.alloc (.cells (madeCells v.cells (m.toNat * i.size)) E)) := by
      rintro ⟨h0, hnm, hm⟩
      have hbm : (i.bytes : Int) * m ≤ 281474976710656 := by
       have h9 : (i.bytes : Int) ≤ 1024 := by omega
       have : (i.bytes : Int) * m ≤ 1024 * m := Int.mul_le_mul_of_nonneg_right h9 (by omega)
       omega
      have hrun := run_make (P := P) w t E i v hu hi hv kl kc n m h0 hnm hbm (by omega)
      rw [← bE hl, ← bE hc] at hrun
      simp only [execOp, ho, Sem.run_bind, hrun, Result.andThen_ok, Sem.run_pure]
     split at hp
     ·rename_i E' sz' α enc' d' l'
      split at hp
      ·rename_i hcc
       simp only [Bool.and_eq_true, Nat.beq_eq] at hcc
       obtain ⟨rfl, rfl⟩ := hcc
       simp only [Prod.mk.injEq] at hp
       obtain ⟨rfl, rfl⟩ := hp
       obtain ⟨hnm, hlen, hrows⟩ := hob
       refine mB.of (core hnm) (hR _ _ (.inl ⟨rfl, (Below.refl _ _).alloc (Nat.le_refl _) _, .inr (.inl ⟨_, rfl, rfl, wC hz hi hv hzz hsz hzl hs1 hnm.1 hnm.2.1 hnm.2.2 hlen hrows, ?_, fun b hb => by simp [az] at hb; exact hb.symm⟩)⟩))
       have := ar.own (S := S) (μ := bt μ H.length (Value.slice (some ⟨w.heap.size, 0, none⟩) n.toNat m.toNat)) (w := w.alloc (.cells (madeCells v.cells (m.toNat * i.size)) E)) H.length
       rwa [aD] at this
      ·cases hp; exact hob.elim
     ·rename_i E' sz' α enc' d' l'
      split at hp
      ·rename_i hcc
       simp only [Bool.and_eq_true, Nat.beq_eq] at hcc
       obtain ⟨rfl, rfl⟩ := hcc
       simp only [Prod.mk.injEq] at hp
       obtain ⟨rfl, rfl⟩ := hp
       obtain ⟨hnm, hlen, hrows⟩ := hob
       have hB : aP S μ (w.alloc (.cells (madeCells v.cells (m.toNat * i.size)) E)) (.slice (some ⟨w.heap.size, 0, none⟩) n.toNat m.toNat) (.arr E (aF P E) enc' d' l') := wC hz hi hv hzz hsz hzl hs1 hnm.1 hnm.2.1 hnm.2.2 hlen hrows
       refine mB.of (core hnm) (hR _ _ (.inl ⟨rfl, (Below.refl _ _).alloc (Nat.le_refl _) _, .inl ⟨rfl, .v _ _ (f7 (S' := fun b => S b ∨ w.heap.size ≤ b) hB (fun b hb => Or.inl hb) (fun b hb => Or.inr (by simp [az] at hb; omega)) (fun b hb => by have := hS b hb; simp; omega))⟩⟩))
      ·cases hp; exact hob.elim
     ·cases hp; exact hob.elim
    ·cases hp; exact hob.elim
   ·cases hp; exact hob.elim
  ·cases hp; exact hob.elim
 ·rename_i t ho
  split at hp
  ·rename_i t' ag α enc d l
   split at hp
   ·simp only [Prod.mk.injEq] at hp
    obtain ⟨rfl, rfl⟩ := hp
    refine mB.of (v := .map (some w.heap.size)) (w' := w.alloc (.map #[] 0)) ?_ (hR _ _ (.inl ⟨rfl, (Below.refl _ _).alloc (Nat.le_refl _) _, .inr (.inl ⟨_, rfl, rfl, ?_, ?_, fun b hb => by simp [az] at hb; exact hb.symm⟩)⟩))
    ·simp [execOp, ho, Instr.makeMap, newObj, Sem.run]
    ·exact ⟨w.heap.size, #[], 0, rfl, heap_alloc_new w _, rfl, fun i k x hx => by simp at hx⟩
    ·have := ar.own (S := S) (μ := bt μ H.length (.map (some w.heap.size))) (w := w.alloc (.map #[] 0)) H.length
     rwa [aD] at this
   ·cases hp; exact hob.elim
  ·cases hp; exact hob.elim
 ·rename_i h1 h2 h3 h4
  split at hp
  ·rename_i q hq
   obtain ⟨k', p'⟩ := q
   simp only [Prod.mk.injEq] at hp
   obtain ⟨rfl, rfl⟩ := hp
   exact wF hH hS hρ hq hob hR
  generalize hq : Kx P H ρ ov o.op = q at hp
  obtain ⟨d, q⟩ := q
  simp only [Prod.mk.injEq] at hp
  obtain ⟨rfl, rfl⟩ := hp
  refine Bj hH hS hρ hq hob ?_ (fun u w' hb hd => hR u w' (.inl ⟨rfl, hb, .inl ⟨rfl, hd⟩⟩))
  unfold Hp
  split
  ·rename_i T ho; exact (h1 T ho).elim
  ·rfl
end
def Ht : List Bool → List Bool → List Bool
 | a :: as, b :: bs => (a || b) :: Ht as bs
 | [], bs => bs
 | as, [] => as
def tQ : Nat → List Bool
 | 0 => [true]
 | n + 1 => false :: tQ n
def ic (ancs : List (List Bool)) : List Edge → List Bool
 | [] => []
 | e :: r => if Region.binds .any e then Ht (Ht (tQ e.on) (ancs.getD e.on [])) (ic ancs r) else ic ancs r
theorem vf : ∀ (a b : List Bool) (j : Nat), (Ht a b).getD j false = (a.getD j false || b.getD j false)
 | a :: as, b :: bs, 0 => rfl
 | a :: as, b :: bs, j + 1 => by simpa [Ht] using vf as bs j
 | [], bs, j => by simp [Ht]
 | a :: as, [], j => by simp [Ht]
theorem tR : ∀ (n j : Nat), (tQ n).getD j false = true → j = n
 | 0, 0, _ => rfl
 | 0, j + 1, h => by simp [tQ] at h
 | n + 1, 0, h => by simp [tQ] at h
 | n + 1, j + 1, h => by have := tR n j (by simpa [tQ] using h); omega
theorem ob {ancs : List (List Bool)} {j : Nat} : ∀ {es : List Edge}, (ic ancs es).getD j false = true → ∃ e ∈ es, Region.binds .any e = true ∧ (j = e.on ∨ (ancs.getD e.on []).getD j false = true)
 | [], h => by simp [ic] at h
 | e :: r, h => by
  unfold ic at h
  split at h
  ·rename_i hb
   rw [vf, vf] at h
   simp only [Bool.or_eq_true] at h
   rcases h with (h | h) | h
   ·exact ⟨e, List.mem_cons_self .., hb, .inl (tR _ _ h)⟩
   ·exact ⟨e, List.mem_cons_self .., hb, .inr h⟩
   ·obtain ⟨e', h1, h2⟩ := ob h
    exact ⟨e', List.mem_cons_of_mem _ h1, h2⟩
  ·obtain ⟨e', h1, h2⟩ := ob h
   exact ⟨e', List.mem_cons_of_mem _ h1, h2⟩
def kB : List Oper → List Mk → List Bool → List (Nat × D)
 | o :: os, k :: ks, b :: bs => match b, o.dst with
  | true, some t => (t, k.d) :: kB os ks bs
  | _, _ => kB os ks bs
 | _, _, _ => []
def ji (id : Nat) : List Mk → List Bool → Bool
 | k :: ks, true :: bs => (match k.kil with | some i => Nat.beq i id | none => false) || ji id ks bs
 | _ :: ks, false :: bs => ji id ks bs
 | _, _ => false
def jr (id : Nat) (bs : List Bool) : Nat → List Mk → Option aE
 | _, [] => none
 | p, k :: ks => match k.fil, bs.getD p false with
  | some i, true => (match Nat.beq i id with | true => some k.b | false => jr id bs (p + 1) ks)
  | _, _ => jr id bs (p + 1) ks
def js (id : Nat) (ks : List Mk) (bs : List Bool) : Option aE := jr id bs 0 ks
def Jk (aks : List Mk) (abs : List Bool) (id : Nat) (k : Mk) : aE := match ji id aks abs, k.fil, js id aks abs with
 | false, none, some B => B
 | false, none, none => k.b
 | _, _, _ => .dead
def ie (aks : List Mk) (abs : List Bool) : Nat → List Mk → List Bool → List aE
 | _, [], _ => []
 | id, _ :: ks, [] => .dead :: ie aks abs (id + 1) ks []
 | id, k :: ks, true :: bs => Jk aks abs id k :: ie aks abs (id + 1) ks bs
 | id, _ :: ks, false :: bs => .dead :: ie aks abs (id + 1) ks bs
def cV (n0 : Nat) (ks : List Mk) (bs : List Bool) : List aE := ie ks bs n0 ks bs
theorem fN {id : Nat} {bs : List Bool} {B : aE} : ∀ {ks : List Mk} {p0 : Nat}, jr id bs p0 ks = some B → ∃ (p : Nat) (k : Mk), ks[p]? = some k ∧ bs.getD (p0 + p) false = true ∧ k.fil = some id ∧ B = k.b
 | [], p0, h => by simp [jr] at h
 | k :: ks, p0, h => by
  unfold jr at h
  have go : jr id bs (p0 + 1) ks = some B → ∃ (p : Nat) (k' : Mk), (k :: ks)[p]? = some k' ∧ bs.getD (p0 + p) false = true ∧ k'.fil = some id ∧ B = k'.b := fun h => by
   obtain ⟨p, k', h1, h2, h3⟩ := fN h
   exact ⟨p + 1, k', by simpa using h1, by rw [show p0 + (p + 1) = p0 + 1 + p by omega]; exact h2, h3⟩
  split at h
  ·rename_i i hf hb
   split at h
   ·rename_i he
    rw [Nat.beq_eq] at he
    cases h
    exact ⟨0, k, rfl, hb, by rw [hf, he], rfl⟩
   ·exact go h
  ·exact go h
theorem jS {id : Nat} {bs : List Bool} : ∀ {ks : List Mk} {p0 : Nat}, jr id bs p0 ks = none → ∀ (p : Nat) (k : Mk), ks[p]? = some k → bs.getD (p0 + p) false = true → k.fil = some id → False
 | [], p0, h, p, k, h1, _, _ => by simp at h1
 | k' :: ks, p0, h, p, k, h1, h2, h3 => by
  unfold jr at h
  cases p with
  | zero =>
   simp at h1; subst h1
   rw [h3, show bs.getD p0 false = true from h2] at h
   simp at h
  | succ p =>
   have h4 : jr id bs (p0 + 1) ks = none := by
    split at h
    ·split at h
     ·cases h
     ·exact h
    ·exact h
   exact jS h4 p k (by simpa using h1) (by rw [show p0 + 1 + p = p0 + (p + 1) by omega]; exact h2) h3
theorem pV {id : Nat} {bs bs' : List Bool} : ∀ {ks : List Mk} {p0 : Nat}, (∀ (p : Nat) (k : Mk), ks[p]? = some k → k.fil = some id → bs.getD (p0 + p) false = bs'.getD (p0 + p) false) → jr id bs p0 ks = jr id bs' p0 ks
 | [], p0, h => rfl
 | k :: ks, p0, h => by
  have ih := pV (id := id) (bs := bs) (bs' := bs') (ks := ks) (p0 := p0 + 1) (fun p k' h1 h2 => by
   have := h (p + 1) k' (by simpa using h1) h2
   rwa [show p0 + (p + 1) = p0 + 1 + p by omega] at this)
  unfold jr
  cases hf : k.fil with
  | none => simp only; exact ih
  | some i =>
   by_cases e : i = id
   ·have := h 0 k rfl (by rw [hf, e])
    rw [Nat.add_zero] at this
    rw [this]
    subst e
    cases bs'.getD p0 false
    ·exact ih
    ·simp
   ·have e2 : Nat.beq i id = false := by
     cases hb : Nat.beq i id
     ·rfl
     ·rw [Nat.beq_eq] at hb; exact (e hb).elim
    cases bs.getD p0 false <;> cases bs'.getD p0 false <;> simp only [e2] <;> exact ih
theorem oc {id : Nat} : ∀ {ks : List Mk} {bs : List Bool}, ji id ks bs = true → ∃ (p : Nat) (k : Mk), ks[p]? = some k ∧ bs.getD p false = true ∧ k.kil = some id
 | [], bs, h => by simp [ji] at h
 | k :: ks, [], h => by simp [ji] at h
 | k :: ks, true :: bs, h => by
  unfold ji at h
  rw [Bool.or_eq_true] at h
  rcases h with h | h
  ·split at h
   ·rename_i i hk; rw [Nat.beq_eq] at h; exact ⟨0, k, rfl, rfl, by rw [hk, h]⟩
   ·cases h
  ·obtain ⟨p, k', h1, h2, h3⟩ := oc h
   exact ⟨p + 1, k', h1, h2, h3⟩
 | k :: ks, false :: bs, h => by
  unfold ji at h
  obtain ⟨p, k', h1, h2, h3⟩ := oc h
  exact ⟨p + 1, k', h1, h2, h3⟩
theorem qA {id : Nat} : ∀ {ks : List Mk} {bs : List Bool} {p : Nat} {k : Mk}, ks[p]? = some k → bs.getD p false = true → k.kil = some id → ji id ks bs = true
 | [], bs, p, k, h, _, _ => by simp at h
 | k' :: ks, [], p, k, _, h, _ => by simp at h
 | k' :: ks, b :: bs, 0, k, h1, h2, h3 => by
  simp at h1 h2
  subst h1 h2
  unfold ji
  rw [h3]
  simp
 | k' :: ks, b :: bs, p + 1, k, h1, h2, h3 => by
  have := qA (ks := ks) (bs := bs) (p := p) (by simpa using h1) (by simpa using h2) h3
  cases b
  ·unfold ji; exact this
  ·unfold ji; rw [this, Bool.or_true]
theorem fO {t : Nat} {d : D} : ∀ {os : List Oper} {ks : List Mk} {bs : List Bool}, (t, d) ∈ kB os ks bs → ∃ (j : Nat) (o : Oper) (k : Mk), os[j]? = some o ∧ ks[j]? = some k ∧ bs.getD j false = true ∧ o.dst = some t ∧ d = k.d
 | o :: os, k :: ks, b :: bs, h => by
  unfold kB at h
  split at h
  ·rename_i t' hd
   rcases List.mem_cons.1 h with h | h
   ·cases h; exact ⟨0, o, k, rfl, rfl, rfl, hd, rfl⟩
   ·obtain ⟨j, o', k', h1⟩ := fO h; exact ⟨j + 1, o', k', h1⟩
  ·obtain ⟨j, o', k', h1⟩ := fO h; exact ⟨j + 1, o', k', h1⟩
 | [], _, _, h => by simp [kB] at h
 | _ :: _, [], _, h => by simp [kB] at h
 | _ :: _, _ :: _, [], h => by simp [kB] at h
theorem lF : ∀ {os : List Oper} {ks : List Mk} {bs : List Bool} (j : Nat) {o : Oper} {k : Mk} {t : Nat}, os[j]? = some o → ks[j]? = some k → bs.getD j false = true → o.dst = some t → (t, k.d) ∈ kB os ks bs
 | o :: os, k :: ks, b :: bs, 0, o', k', t, h1, h2, h3, h4 => by
  simp at h1 h2 h3; subst h1 h2 h3
  unfold kB
  rw [h4]
  exact List.mem_cons_self ..
 | o :: os, k :: ks, b :: bs, j + 1, o', k', t, h1, h2, h3, h4 => by
  have := lF (os := os) (ks := ks) (bs := bs) j (by simpa using h1) (by simpa using h2) (by simpa using h3) h4
  unfold kB
  split
  ·exact List.mem_cons_of_mem _ this
  ·exact this
 | [], _, _, _, _, _, _, h1, _, _, _ => by simp at h1
 | _ :: _, [], _, _, _, _, _, _, h2, _, _ => by simp at h2
 | _ :: _, _ :: _, [], _, _, _, _, _, _, h3, _ => by simp at h3
theorem gO {aks : List Mk} {abs : List Bool} : ∀ (n : Nat) (ks : List Mk) (bs : List Bool), (ie aks abs n ks bs).length = ks.length
 | _, [], _ => rfl
 | n, _ :: ks, [] => by simp [ie, gO (n + 1) ks]
 | n, _ :: ks, true :: bs => by simp [ie, gO (n + 1) ks]
 | n, _ :: ks, false :: bs => by simp [ie, gO (n + 1) ks]
theorem cZ (n : Nat) (ks : List Mk) (bs : List Bool) : (cV n ks bs).length = ks.length := gO _ _ _
theorem lG {aks : List Mk} {abs : List Bool} : ∀ (n : Nat) (ks : List Mk) (bs : List Bool) (j : Nat) (k : Mk), ks[j]? = some k → (ie aks abs n ks bs)[j]? = some (if bs.getD j false = true then Jk aks abs (n + j) k else .dead)
 | n, _ :: ks, [], 0, k, h => by simp [ie]
 | n, _ :: ks, [], j + 1, k, h => by simpa [ie] using lG (n + 1) ks [] j k (by simpa using h)
 | n, k' :: ks, true :: bs, 0, k, h => by
  simp at h; subst h
  simp [ie]
 | n, _ :: ks, true :: bs, j + 1, k, h => by
  have := lG (aks := aks) (abs := abs) (n + 1) ks bs j k (by simpa using h)
  rw [show n + 1 + j = n + (j + 1) by omega] at this
  simpa [ie] using this
 | n, _ :: ks, false :: bs, 0, k, h => by simp [ie]
 | n, _ :: ks, false :: bs, j + 1, k, h => by
  have := lG (aks := aks) (abs := abs) (n + 1) ks bs j k (by simpa using h)
  rw [show n + 1 + j = n + (j + 1) by omega] at this
  simpa [ie] using this
 | _, [], _, _, _, h => by simp at h
theorem lH (n : Nat) (ks : List Mk) (bs : List Bool) (j : Nat) (k : Mk) (h : ks[j]? = some k) : (cV n ks bs)[j]? = some (if bs.getD j false = true then Jk ks bs (n + j) k else .dead) := lG n ks bs j k h
theorem jT {n : Nat} {ks : List Mk} {bs : List Bool} {j : Nat} {k : Mk} {B : aE} (h : ks[j]? = some k) (hB : (cV n ks bs)[j]? = some B) :
  B = .dead ∨ (bs.getD j false = true ∧ ji (n + j) ks bs = false ∧ k.fil = none ∧ ((js (n + j) ks bs = none ∧ B = k.b) ∨ js (n + j) ks bs = some B)) := by
 rw [lH _ _ _ _ _ h] at hB
 split at hB
 ·rename_i hb
  simp only [Option.some.injEq] at hB
  unfold Jk at hB
  split at hB
  ·rename_i B0 h1 h2 h3; exact .inr ⟨hb, h1, h2, .inr (by rw [h3, hB])⟩
  ·rename_i h1 h2 h3; exact .inr ⟨hb, h1, h2, .inl ⟨h3, hB.symm⟩⟩
  ·exact .inl hB.symm
 ·cases hB; exact .inl rfl
theorem rH {n : Nat} {ks : List Mk} {bs : List Bool} {j : Nat} {k : Mk} {B : aE} (h : ks[j]? = some k) (h1 : bs.getD j false = true) (h2 : ji (n + j) ks bs = false) (h3 : k.fil = none) (h4 : (js (n + j) ks bs = none ∧ B = k.b) ∨ js (n + j) ks bs = some B) :
  (cV n ks bs)[j]? = some B := by
 rw [lH _ _ _ _ _ h, if_pos h1]
 unfold Jk
 rw [h2, h3]
 rcases h4 with ⟨h5, rfl⟩ | h5
 ·rw [h5]
 ·rw [h5]
def tS (os : List Oper) : List (Nat × D) → List (Nat × D)
 | [] => []
 | (t, d) :: r => if os.any (fun o => match o.dst with | some s => Nat.beq s t | none => false) then tS os r else (t, d) :: tS os r
theorem jt {os : List Oper} {t : Nat} {d : D} : ∀ {env : List (Nat × D)}, (t, d) ∈ tS os env → (t, d) ∈ env ∧ ∀ o ∈ os, o.dst ≠ some t
 | (s, e) :: r, h => by
  unfold tS at h
  split at h
  ·obtain ⟨h1, h2⟩ := jt h; exact ⟨List.mem_cons_of_mem _ h1, h2⟩
  ·rename_i hn
   rcases List.mem_cons.1 h with h | h
   ·cases h
    refine ⟨List.mem_cons_self .., fun o ho he => hn ?_⟩
    rw [List.any_eq_true]
    exact ⟨o, ho, by rw [he]; simp⟩
   ·obtain ⟨h1, h2⟩ := jt h; exact ⟨List.mem_cons_of_mem _ h1, h2⟩
def eh (os : List Oper) (st : St) (ks : List Mk) (anc : List Bool) : St := ⟨tS os st.env ++ kB os ks anc, st.heap ++ cV st.heap.length ks anc⟩
def Fs (P : Program) (ops os : List Oper) (st : St) (ovs : List (Nat × Ov)) : Nat → List Oper → List (List Bool) → List Mk → (List (List Bool) → List Mk → Prop) → Prop
 | _, [], ancs, ks, K => K ancs ks
 | i, o :: r, ancs, ks, K =>
  match ia ops (eh os st ks (ic ancs o.after.toList)) o with
  | some true => match tP P (eh os st ks (ic ancs o.after.toList)).heap (eP (eh os st ks (ic ancs o.after.toList)).env) (nY ovs i) o.op with
   | (k, p) => p ∧ nD k.d (fun d => nB k.b (fun b => nK k.kl (fun kl => Fs P ops os st ovs (i + 1) r (ancs ++ [ic ancs o.after.toList]) (ks ++ [.make d b kl]) K)))
  | some false => Fs P ops os st ovs (i + 1) r (ancs ++ [ic ancs o.after.toList]) (ks ++ [mr (.tup []) .dead]) K
  | none => False
def mL (st : St) (n0 : Nat) : Nat → List (List Bool) → List Mk → List (List Bool) → List Mk → Bool
 | i, a :: as, k :: ks, ancs, mks => (match k.b, k.kl with
   | .dead, none => true
   | _, _ => bQ (n0 + i) st.env && bL (n0 + i) st.heap && freeM i (n0 + i) 0 ancs mks) && mL st n0 (i + 1) as ks ancs mks
 | _, _, _, _, _ => true
where freeM (i id : Nat) : Nat → List (List Bool) → List Mk → Bool
 | j, a :: as, k :: ks => (Nat.beq j i || a.getD i false || (D.free id k.d && aE.free id k.b)) && freeM i id (j + 1) as ks
 | _, _, _ => true
def zE : List Oper → Bool
 | [] => true
 | o :: r => (match o.dst with | some t => r.all (fun o' => match o'.dst with | some s => !(Nat.beq s t) | none => true) | none => true) && zE r
def qB (nt : Nat) : List Oper → Bool
 | [] => true
 | o :: r => (match o.dst with | some t => Nat.blt t nt && !(jR o.op) | none => jR o.op) && qB nt r
def CW : pO := { K := fun _ => .grow, F := fun _ _ _ _ => True, ins := fun _ => [] }
def Hu (nt : Nat) (ops : List Oper) (m : Nat) : Bool :=
 IW ops.toArray CW ⟨Array.replicate nt undef, []⟩ && za ops.toArray m && qB nt (ops.take m) && zE (ops.take m) && ops.all (fun o => !dV o)
def pk (n0 : Nat) (ancs : List (List Bool)) (ks : List Mk) : Bool := (List.range ks.length).all fun p => match (ks.getD p (mr .junk .dead)).kl with
 | none => true
 | some id => Nat.ble n0 id && (ancs.getD p []).getD (id - n0) false && ((List.range ks.length).all fun i => Nat.beq i p || !((ancs.getD i []).getD (id - n0) false) || (ancs.getD i []).getD p false || (ancs.getD p []).getD i false) && (List.range ks.length).all fun i => Nat.beq i p || (match (ks.getD i (mr .junk .dead)).kl with | some j => !(Nat.beq j id) | none => true)
theorem ig {n0 : Nat} {ancs : List (List Bool)} {ks : List Mk} (h : pk n0 ancs ks = true) {p : Nat} {k : Mk} (hp : ks[p]? = some k) {id : Nat} (hk : k.kl = some id) :
  n0 ≤ id ∧ (ancs.getD p []).getD (id - n0) false = true ∧ ∀ i, i < ks.length → i ≠ p → (ancs.getD i []).getD (id - n0) false = true → (ancs.getD i []).getD p false = true ∨ (ancs.getD p []).getD i false = true := by
 unfold pk at h
 rw [List.all_eq_true] at h
 have hpl : p < ks.length := (List.getElem?_eq_some_iff.1 hp).1
 have h1 := h p (List.mem_range.2 hpl)
 have e : ks.getD p (mr .junk .dead) = k := by rw [List.getD, hp]; rfl
 rw [e, hk] at h1
 simp only [Bool.and_eq_true] at h1
 have h1 := h1.1
 simp only [Nat.ble_eq, List.all_eq_true, List.mem_range, Bool.or_eq_true, Nat.beq_eq, Bool.not_eq_true'] at h1
 refine ⟨h1.1.1, h1.1.2, fun i hi hne ha => ?_⟩
 rcases h1.2 i hi with ((h2 | h2) | h2) | h2
 ·exact absurd h2 hne
 ·rw [ha] at h2; cases h2
 ·exact .inl h2
 ·exact .inr h2
theorem rI {n0 : Nat} {ancs : List (List Bool)} {ks : List Mk} (h : pk n0 ancs ks = true) {p q : Nat} {k k' : Mk} (hp : ks[p]? = some k) (hq : ks[q]? = some k') {id : Nat} (hk : k.kl = some id) (hk' : k'.kl = some id) : p = q := by
 unfold pk at h
 rw [List.all_eq_true] at h
 have hpl : p < ks.length := (List.getElem?_eq_some_iff.1 hp).1
 have hql : q < ks.length := (List.getElem?_eq_some_iff.1 hq).1
 have h1 := h p (List.mem_range.2 hpl)
 have e : ks.getD p (mr .junk .dead) = k := by rw [List.getD, hp]; rfl
 rw [e, hk] at h1
 simp only [Bool.and_eq_true] at h1
 have h2 := h1.2
 rw [List.all_eq_true] at h2
 have h3 := h2 q (List.mem_range.2 hql)
 have e2 : ks.getD q (mr .junk .dead) = k' := by rw [List.getD, hq]; rfl
 rw [e2, hk'] at h3
 simp only [Bool.or_eq_true, Nat.beq_eq, Bool.not_eq_true'] at h3
 rcases h3 with h3 | h3
 ·exact h3.symm
 ·have : Nat.beq id id = true := by rw [Nat.beq_eq]
  rw [this] at h3; cases h3
def Hv (P : Program) (nt : Nat) (ops : List Oper) (ovs : List (Nat × Ov)) (m : Nat) (st : St) (k : St → Prop) : Prop :=
 Fs P ops (ops.take m) st ovs 0 (ops.take m) [] [] fun ancs ks =>
  match Hu nt ops m && (mL st st.heap.length 0 ancs ks ancs ks && pk st.heap.length ancs ks) && P.follows .mixedOrders with
  | true => sZ P nt ops ovs m (ops.drop m) ⟨tS (ops.take m) st.env ++ kB (ops.take m) ks (List.replicate m true), st.heap ++ cV st.heap.length ks (List.replicate m true)⟩ k
  | false => False
theorem pm {P : Program} {nt : Nat} {ops : List Oper} {ovs : List (Nat × Ov)} {k k' : St → Prop} (hk : ∀ st, k st → k' st) : ∀ (r : List Oper) (i : Nat) (st : St), sZ P nt ops ovs i r st k → sZ P nt ops ovs i r st k'
 | [], i, st, h => hk _ h
 | o :: r, i, st, h => by
  unfold sZ at h ⊢
  split at h
  ·rename_i hg; exact ⟨h.1, pm hk r (i + 1) _ h.2⟩
  ·rename_i hg; exact ⟨h.1, pm hk r (i + 1) _ h.2⟩
  ·exact h.elim
theorem rJ {P : Program} {ops os : List Oper} {st : St} {ovs : List (Nat × Ov)} {K K' : List (List Bool) → List Mk → Prop} (hk : ∀ a b, K a b → K' a b) : ∀ (r : List Oper) (i : Nat) (ancs : List (List Bool)) (ks : List Mk), Fs P ops os st ovs i r ancs ks K → Fs P ops os st ovs i r ancs ks K'
 | [], i, ancs, ks, h => hk _ _ h
 | o :: r, i, ancs, ks, h => by
  unfold Fs at h ⊢
  split at h
  ·rename_i hg
   refine ⟨h.1, ?_⟩
   have h2 := h.2
   rw [zD, CQ, GZ] at h2 ⊢
   exact rJ hk r (i + 1) _ _ h2
  ·exact rJ hk r (i + 1) _ _ h
  ·exact h.elim
theorem CX {P : Program} {nt : Nat} {ops : List Oper} {ovs : List (Nat × Ov)} {m : Nat} {st : St} {k k' : St → Prop} (h : Hv P nt ops ovs m st k) (hk : ∀ st, k st → k' st) : Hv P nt ops ovs m st k' := by
 unfold Hv at h ⊢
 refine rJ (fun a b hq => ?_) _ _ _ _ h
 split at hq
 ·exact pm hk _ _ _ hq
 ·exact hq.elim
section
variable {C : mW}
theorem CY {P : Program} {ops os : List Oper} {st : St} {ovs : List (Nat × Ov)} {K : List (List Bool) → List Mk → Prop} : ∀ (r : List Oper) (i : Nat) (ancs : List (List Bool)) (ks : List Mk), ancs.length = i → ks.length = i → Fs P ops os st ovs i r ancs ks K →
  ∃ (ancs' : List (List Bool)) (ks' : List Mk), ancs'.length = i + r.length ∧ ks'.length = i + r.length ∧ (∃ x, ancs' = ancs ++ x) ∧ (∃ y, ks' = ks ++ y) ∧ K ancs' ks' ∧
   ∀ (j : Nat) (o : Oper), r[j]? = some o → (ancs'.getD (i + j) []) = ic (ancs'.take (i + j)) o.after.toList ∧
    ((ia ops (eh os st (ks'.take (i + j)) (ancs'.getD (i + j) [])) o = some true ∧ ∃ k p, tP P (eh os st (ks'.take (i + j)) (ancs'.getD (i + j) [])).heap (eP (eh os st (ks'.take (i + j)) (ancs'.getD (i + j) [])).env) (nY ovs (i + j)) o.op = (k, p) ∧ p ∧ ks'[i + j]? = some k) ∨
     (ia ops (eh os st (ks'.take (i + j)) (ancs'.getD (i + j) [])) o = some false ∧ ks'[i + j]? = some (mr (.tup []) .dead)))
 | [], i, ancs, ks, h1, h2, h => ⟨ancs, ks, by simp [h1], by simp [h2], ⟨[], by simp⟩, ⟨[], by simp⟩, h, fun j o ho => by simp at ho⟩
 | o :: r, i, ancs, ks, h1, h2, h => by
  unfold Fs at h
  have fin : ∀ (k : Mk), Fs P ops os st ovs (i + 1) r (ancs ++ [ic ancs o.after.toList]) (ks ++ [k]) K →
    ((ia ops (eh os st ks (ic ancs o.after.toList)) o = some true ∧ ∃ p, tP P (eh os st ks (ic ancs o.after.toList)).heap (eP (eh os st ks (ic ancs o.after.toList)).env) (nY ovs i) o.op = (k, p) ∧ p) ∨ (ia ops (eh os st ks (ic ancs o.after.toList)) o = some false ∧ k = mr (.tup []) .dead)) →
    ∃ (ancs' : List (List Bool)) (ks' : List Mk), ancs'.length = i + (o :: r).length ∧ ks'.length = i + (o :: r).length ∧ (∃ x, ancs' = ancs ++ x) ∧ (∃ y, ks' = ks ++ y) ∧ K ancs' ks' ∧
     ∀ (j : Nat) (o' : Oper), (o :: r)[j]? = some o' → (ancs'.getD (i + j) []) = ic (ancs'.take (i + j)) o'.after.toList ∧
      ((ia ops (eh os st (ks'.take (i + j)) (ancs'.getD (i + j) [])) o' = some true ∧ ∃ k p, tP P (eh os st (ks'.take (i + j)) (ancs'.getD (i + j) [])).heap (eP (eh os st (ks'.take (i + j)) (ancs'.getD (i + j) [])).env) (nY ovs (i + j)) o'.op = (k, p) ∧ p ∧ ks'[i + j]? = some k) ∨
       (ia ops (eh os st (ks'.take (i + j)) (ancs'.getD (i + j) [])) o' = some false ∧ ks'[i + j]? = some (mr (.tup []) .dead))) := by
   intro k hk hc
   obtain ⟨ancs', ks', q1, q2, ⟨x, q3⟩, ⟨y, q4⟩, q5, q6⟩ := CY r (i + 1) _ _ (by simp [h1]) (by simp [h2]) hk
   refine ⟨ancs', ks', by rw [q1, List.length_cons]; omega, by rw [q2, List.length_cons]; omega, ⟨_, by rw [q3, List.append_assoc]⟩, ⟨_, by rw [q4, List.append_assoc]⟩, q5, fun j o' ho' => ?_⟩
   cases j with
   | zero =>
    simp at ho'
    subst ho'
    have ea : ancs'.getD (i + 0) [] = ic ancs o.after.toList := by
     rw [q3]; unfold List.getD
     rw [List.append_assoc, List.getElem?_append_right (by omega)]
     simp [h1]
    have et : ancs'.take (i + 0) = ancs := by rw [q3, List.append_assoc, Nat.add_zero, ← h1, List.take_left]
    have ek : ks'.take (i + 0) = ks := by rw [q4, List.append_assoc, Nat.add_zero, ← h2, List.take_left]
    have eg : ks'[i + 0]? = some k := by
     rw [q4, List.append_assoc, List.getElem?_append_right (by omega)]
     simp [h2]
    rw [ea, et, ek, eg]
    refine ⟨rfl, ?_⟩
    rcases hc with ⟨c1, p, c2, c3⟩ | ⟨c1, rfl⟩
    ·exact .inl ⟨c1, k, p, c2, c3, rfl⟩
    ·exact .inr ⟨c1, rfl⟩
   | succ j =>
    have := q6 j o' (by simpa using ho')
    rwa [show i + 1 + j = i + (j + 1) from by omega] at this
  split at h
  ·rename_i hg
   generalize hq : tP P (eh os st ks (ic ancs o.after.toList)).heap (eP (eh os st ks (ic ancs o.after.toList)).env) (nY ovs i) o.op = q at h
   obtain ⟨k, p⟩ := q
   obtain ⟨hp, hk⟩ := h
   rw [zD, CQ, GZ] at hk
   exact fin k hk (.inl ⟨hg, p, hq, hp⟩)
  ·rename_i hg
   exact fin _ h (.inr ⟨hg, rfl⟩)
  ·exact h.elim
theorem wG {α : Type _} {l : List α} {i : Nat} {x : α} (h : l[i]? = some x) : l.set i x = l := by
 apply List.ext_getElem?
 intro j
 by_cases hj : i = j
 ·subst hj
  rw [List.getElem?_set_self (List.getElem?_eq_some_iff.1 h).1, h]
 ·rw [List.getElem?_set_ne hj]
theorem wH {id : Nat} : ∀ {env : List (Nat × D)}, (∀ t d, (t, d) ∈ env → D.free id d = true) → bQ id env = true
 | [], _ => rfl
 | (t, d) :: r, h => by
  simp only [bQ, Bool.and_eq_true]
  exact ⟨h t d (List.mem_cons_self ..), wH (fun t d hm => h t d (List.mem_cons_of_mem _ hm))⟩
theorem og {id : Nat} : ∀ {H : List aE}, (∀ (j : Nat) (B : aE), H[j]? = some B → aE.free id B = true) → bL id H = true
 | [], _ => rfl
 | B :: r, h => by
  simp only [bL, Bool.and_eq_true]
  exact ⟨h 0 B rfl, og (fun j B hB => h (j + 1) B (by simpa using hB))⟩
theorem ju {t s : Nat} {d : D} : ∀ {env : List (Nat × D)}, (s, d) ∈ env → s ≠ t → (s, d) ∈ pR env t
 | (q, e) :: r, h, hn => by
  unfold pR
  rcases List.mem_cons.1 h with h | h
  ·cases h
   split
   ·rename_i hq; rw [Nat.beq_eq] at hq; exact (hn hq).elim
   ·exact List.mem_cons_self ..
  ·split
   ·exact ju h hn
   ·exact List.mem_cons_of_mem _ (ju h hn)
theorem tT {i id : Nat} : ∀ {as : List (List Bool)} {ks : List Mk} {j0 : Nat}, mL.freeM i id j0 as ks = true → ∀ (j : Nat) (a : List Bool) (k : Mk), as[j]? = some a → ks[j]? = some k → j0 + j = i ∨ a.getD i false = true ∨ (D.free id k.d = true ∧ aE.free id k.b = true)
 | a :: as, k :: ks, j0, h, 0, a', k', h1, h2 => by
  simp at h1 h2; subst h1 h2
  unfold mL.freeM at h
  simp only [Bool.and_eq_true, Bool.or_eq_true, Nat.beq_eq] at h
  rcases h.1 with (h3 | h3) | h3
  ·exact .inl (by omega)
  ·exact .inr (.inl h3)
  ·exact .inr (.inr h3)
 | a :: as, k :: ks, j0, h, j + 1, a', k', h1, h2 => by
  unfold mL.freeM at h
  simp only [Bool.and_eq_true] at h
  have := tT h.2 j a' k' (by simpa using h1) (by simpa using h2)
  rcases this with h3 | h3
  ·exact .inl (by omega)
  ·exact .inr h3
 | [], _, _, _, _, _, _, h1, _ => by simp at h1
 | _ :: _, [], _, _, _, _, _, _, h2 => by simp at h2
theorem tU {st : St} {n0 : Nat} {ancs : List (List Bool)} {mks : List Mk} : ∀ {as : List (List Bool)} {ks : List Mk} {i0 : Nat}, mL st n0 i0 as ks ancs mks = true → ∀ (i : Nat) (a : List Bool) (k : Mk), as[i]? = some a → ks[i]? = some k → k.b.live = true ∨ k.kl.isSome = true →
  bQ (n0 + (i0 + i)) st.env = true ∧ bL (n0 + (i0 + i)) st.heap = true ∧ mL.freeM (i0 + i) (n0 + (i0 + i)) 0 ancs mks = true
 | a :: as, k :: ks, i0, h, 0, a', k', h1, h2, hl => by
  simp at h1 h2; subst h1 h2
  unfold mL at h
  simp only [Bool.and_eq_true] at h
  have h3 := h.1
  split at h3
  ·rename_i hb hb2; rw [hb, hb2] at hl; rcases hl with hl | hl <;> cases hl
  ·simp only [Bool.and_eq_true] at h3
   exact ⟨h3.1.1, h3.1.2, h3.2⟩
 | a :: as, k :: ks, i0, h, i + 1, a', k', h1, h2, hl => by
  unfold mL at h
  simp only [Bool.and_eq_true] at h
  have := tU h.2 i a' k' (by simpa using h1) (by simpa using h2) hl
  rwa [show i0 + 1 + i = i0 + (i + 1) from by omega] at this
 | [], _, _, _, _, _, _, h1, _, _ => by simp at h1
 | _ :: _, [], _, _, _, _, _, _, h2, _ => by simp at h2
theorem tV : ∀ {os : List Oper}, zE os = true → ∀ (i j : Nat) (o o' : Oper) (t : Nat), os[i]? = some o → os[j]? = some o' → o.dst = some t → o'.dst = some t → i = j
 | x :: r, h, i, j, o, o', t, hi, hj, h1, h2 => by
  unfold zE at h
  simp only [Bool.and_eq_true] at h
  have key : ∀ (k : Nat) (y z : Oper), r[k]? = some y → z = x → z.dst = some t → y.dst = some t → False := by
   intro k y z hy hz hd hd2
   subst hz
   have h3 := h.1
   rw [hd] at h3
   simp only [List.all_eq_true] at h3
   have := h3 y (List.mem_of_getElem? hy)
   rw [hd2] at this
   simp at this
  cases i with
  | zero =>
   cases j with
   | zero => rfl
   | succ j => simp at hi hj; exact (key j o' o hj hi.symm h1 h2).elim
  | succ i =>
   cases j with
   | zero => simp at hi hj; exact (key i o o' hi hj.symm h2 h1).elim
   | succ j => simp at hi hj; rw [tV h.2 i j o o' t hi hj h1 h2]
 | [], _, i, _, _, _, _, hi, _, _, _ => by simp at hi
theorem ng {ops : List Oper} {ancs : List (List Bool)} {m : Nat} {ls : Array Bool} (hcl : ∀ i o, ls.getD i false = true → ops[i]? = some o → ∀ e ∈ o.after, Region.binds .any e = true → ls.getD e.on false = true)
  (hlt : ∀ i o, ops[i]? = some o → ∀ e ∈ o.after, Region.binds .any e = true → e.on < i) (hm : m ≤ ops.length)
  (hanc : ∀ (j : Nat) (o : Oper), (ops.take m)[j]? = some o → ancs.getD j [] = ic (ancs.take j) o.after.toList) (hal : ancs.length = m) :
  ∀ (i : Nat) (o : Oper), i < m → ops[i]? = some o → (∀ e ∈ o.after, Region.binds .any e = true → ls.getD e.on false = true) → ∀ j, (ancs.getD i []).getD j false = true → ls.getD j false = true := by
 intro i
 induction i using Nat.strongRecOn with
 | _ i ih =>
  intro o hi ho hr j hj
  rw [hanc i o (by rw [List.getElem?_take, if_pos hi]; exact ho)] at hj
  obtain ⟨e, he, hb, hc⟩ := ob hj
  have he' : e ∈ o.after := by simpa using he
  have hlst := hr e he' hb
  have hei := hlt i o ho e he' hb
  rcases hc with rfl | hc
  ·exact hlst
  ·have e2 : (ancs.take i).getD e.on [] = ancs.getD e.on [] := by
    unfold List.getD; rw [List.getElem?_take, if_pos hei]
   rw [e2] at hc
   have hoe : ops[e.on]? = some (ops[e.on]'(by omega)) := List.getElem?_eq_getElem (by omega)
   exact ih e.on hei _ (by omega) hoe (hcl e.on _ hlst hoe) j hc
theorem dJ (listed : Array Bool) (m j : Nat) (h : j < m) : ((List.range m).map fun j => listed.getD j false).getD j false = listed.getD j false := by
 simp [List.getD, h]
theorem po (listed : Array Bool) (m j : Nat) (h : m ≤ j) : ((List.range m).map fun j => listed.getD j false).getD j false = false := by
 simp [List.getD, h]
theorem CZ {ops : List Oper} {ancs : List (List Bool)} {m : Nat} (hlt : ∀ i o, ops[i]? = some o → ∀ e ∈ o.after, Region.binds .any e = true → e.on < i) (hm : m ≤ ops.length)
  (hanc : ∀ (j : Nat) (o : Oper), (ops.take m)[j]? = some o → ancs.getD j [] = ic (ancs.take j) o.after.toList) : ∀ (i : Nat), i < m → ∀ j, (ancs.getD i []).getD j false = true → j < i := by
 intro i
 induction i using Nat.strongRecOn with
 | _ i ih =>
  intro hi j hj
  have hoi : ops[i]? = some (ops[i]'(by omega)) := List.getElem?_eq_getElem (by omega)
  rw [hanc i _ (by rw [List.getElem?_take, if_pos hi]; exact hoi)] at hj
  obtain ⟨e, he, hb, hc⟩ := ob hj
  have he' : e ∈ (ops[i]'(by omega)).after := by simpa using he
  have hei := hlt i _ hoi e he' hb
  rcases hc with rfl | hc
  ·exact hei
  ·have e2 : (ancs.take i).getD e.on [] = ancs.getD e.on [] := by
    unfold List.getD; rw [List.getElem?_take, if_pos hei]
   rw [e2] at hc
   have := ih e.on hei (by omega) j hc
   omega
theorem rL {id : Nat} {x : Fz} : ∀ {env : List (Nat × D)} {t : Nat} {d : D}, (t, d) ∈ env → (t, mq id x d) ∈ na id x env
 | (s, e) :: r, t, d, h => by
  rcases List.mem_cons.1 h with h | h
  ·cases h; exact List.mem_cons_self ..
  ·exact List.mem_cons_of_mem _ (rL h)
theorem aZ.addAt {S : Nat → Prop} {μ : Nat → Value} {st : St} {a : Act} {w : World} (h : aZ C S μ st a w) {id : Nat} (hd : st.heap[id]? = some .dead) (hf : bQ id st.env = true) (hh : bL id st.heap = true) {B : aE} {u : Value} (hA2 : B.isArr = true) {μ1 : Nat → Value} (hbox : aP S μ1 w u B)
  (hnew : ∀ b, az u = some b → C.W.heap.size ≤ b ∧ ¬ S b ∧ ∀ (i : Nat) (A : aE), st.heap[i]? = some A → A.live = true → az (μ i) ≠ some b) : aZ C S (bt μ id u) ⟨st.env, st.heap.set id B⟩ a w := by
 have hother : ∀ i, i ≠ id → bt μ id u i = μ i := fun i hi => a6 _ _ hi
 have hlt : id < st.heap.length := (List.getElem?_eq_some_iff.1 hd).1
 have get : ∀ (i : Nat) (A : aE), (st.heap.set id B)[i]? = some A → (i ≠ id ∧ st.heap[i]? = some A) ∨ (i = id ∧ A = B) := by
  intro i A hA
  by_cases hi : i = id
  ·subst hi
   rw [List.getElem?_set_self hlt] at hA
   exact .inr ⟨rfl, by cases hA; rfl⟩
  ·rw [List.getElem?_set_ne (Ne.symm hi)] at hA
   exact .inl ⟨hi, hA⟩
 refine ⟨h.os, h.tape, h.output, h.size, h.old, h.mono, h.new, h.slt, ?_, ⟨?_, ?_, ?_⟩, ?_, ?_, h.tsize, ?_⟩
 ·intro t d hm
  obtain ⟨q1, q2⟩ := h.env t d hm
  exact ⟨q1, q2.stable (fun _ h _ => h) (fun _ _ _ => rfl) (Nat.le_refl _) (fun id hid => a6 _ _ (fun e => by rw [e, dW hf hm] at hid; cases hid))⟩
 ·intro i A hA
  rcases get i A hA with ⟨hi, hA⟩ | ⟨rfl, rfl⟩
  ·rw [hother i hi]
   exact (h.heap.box i A hA).stable (fun _ h _ => h) (fun _ _ _ => rfl) (Nat.le_refl _) (fun id hid => a6 _ _ (fun e => by rw [e, df hh hA] at hid; cases hid)) (fun _ _ => rfl)
  ·rw [aD]
   exact hbox.arrMu hA2
 ·intro i j A A' b hA hA' la la' hb hb'
  have g1 := get i A hA
  have g2 := get j A' hA'
  clear hA hA'
  rcases g1 with ⟨hi, hA⟩ | ⟨ei, eA⟩ <;> rcases g2 with ⟨hj, hA'⟩ | ⟨ej, eA'⟩
  ·rw [hother i hi] at hb; rw [hother j hj] at hb'
   exact h.heap.apart i j A A' b hA hA' la la' hb hb'
  ·rw [hother i hi] at hb; rw [ej, aD] at hb'
   exact ((hnew b hb').2.2 i A hA la hb).elim
  ·rw [hother j hj] at hb'; rw [ei, aD] at hb
   exact ((hnew b hb).2.2 j A' hA' la' hb').elim
  ·rw [ei, ej]
 ·intro i A b hA la hb
  rcases get i A hA with ⟨hi, hA⟩ | ⟨rfl, rfl⟩
  ·rw [hother i hi] at hb
   exact h.heap.notS i A b hA la hb
  ·rw [aD] at hb
   exact (hnew b hb).2.1
 ·intro i A b hA la hb
  rcases get i A hA with ⟨hi, hA⟩ | ⟨rfl, rfl⟩
  ·rw [hother i hi] at hb
   exact h.may i A b hA la hb
  ·rw [aD] at hb
   exact (hnew b hb).1
 ·obtain ⟨mk, e1, e2, e3⟩ := h.defers
  refine ⟨mk, e1, e2, fun b hb => ?_⟩
  obtain ⟨g1, g2, g3, g4⟩ := e3 b hb
  refine ⟨g1, g2, g3, fun i A hA la hbk => ?_⟩
  rcases get i A hA with ⟨hi, hA⟩ | ⟨rfl, rfl⟩
  ·rw [hother i hi] at hbk
   exact g4 i A hA la hbk
  ·rw [aD] at hbk
   cases A <;> first | cases hA2 | skip
   obtain ⟨_, xs, ⟨_, h2⟩, _⟩ := hbox
   rcases h2 with ⟨rfl, _⟩ | ⟨g, cap, cur, rfl, hg, hh2, r⟩
   ·simp [az] at hbk
   ·simp [az] at hbk
    subst hbk
    rw [hh2] at g1
    simp at g1
 ·intro i A b hA la hb
  rcases get i A hA with ⟨hi, hA⟩ | ⟨rfl, rfl⟩
  ·rw [hother i hi] at hb
   exact h.ro i A b hA la hb
  ·cases A <;> first | (cases hA2; done) | cases la
theorem aZ.alias {S : Nat → Prop} {μ : Nat → Value} {st : St} {a : Act} {w : World} (h : aZ C S μ st a w) {q p : Nat} {A : aE} (hq : st.heap[q]? = some A) (hA : A.isArr = true) (hp : st.heap[p]? = some .dead) (hf : bQ p st.env = true) (hh : bL p st.heap = true) :
  aZ C S (bt μ p (μ q)) ⟨st.env, (st.heap.set q .dead).set p A⟩ a w := by
 have hl : A.live = true := by cases A <;> first | rfl | cases hA
 have hqp : q ≠ p := fun e => by subst e; rw [hq] at hp; cases hp; cases hl
 have hqL : q < st.heap.length := (List.getElem?_eq_some_iff.1 hq).1
 have hpL : p < st.heap.length := (List.getElem?_eq_some_iff.1 hp).1
 have h1 : aZ C S μ ⟨st.env, st.heap.set q .dead⟩ a w := h.heapTo (fun i B hB => by
  by_cases e : i = q
  ·subst e; rw [List.getElem?_set_self hqL] at hB; cases hB; exact .inl rfl
  ·rw [List.getElem?_set_ne (Ne.symm e)] at hB; exact .inr hB)
 have hp1 : (st.heap.set q .dead)[p]? = some .dead := by rw [List.getElem?_set_ne hqp]; exact hp
 have hh1 : bL p (st.heap.set q .dead) = true := og (fun i B hB => by
  by_cases e : i = q
  ·subst e; rw [List.getElem?_set_self hqL] at hB; cases hB; rfl
  ·rw [List.getElem?_set_ne (Ne.symm e)] at hB; exact df hh hB)
 refine h1.addAt hp1 hf hh1 hA (h.heap.box q A hq) (fun b hb => ⟨h.may q A b hq hl hb, h.heap.notS q A b hq hl hb, fun i B hB lB hbk => ?_⟩)
 have hB' : (st.heap.set q .dead)[i]? = some B := hB
 by_cases e : i = q
 ·subst e; rw [List.getElem?_set_self hqL] at hB'; cases hB'; cases lB
 ·rw [List.getElem?_set_ne (Ne.symm e)] at hB'
  exact e (h.heap.apart i q B A b hB' hq lB hl hbk hb)
theorem Ev.dw {id : Nat} {ops : List Oper} {st : St} {Q : Exit → St → Prop} (ovs : List (Nat × Ov)) (m : Nat) (h : Hv C.P C.nt ops ovs m st (fun st1 => Q .normal st1)) : Ev C (.region id ops.toArray true) Q st := fun a w S μ hR => by
 unfold Hv at h
 obtain ⟨ancs, ks, hal, hkl, _, _, hK, hmk⟩ := CY (ops.take m) 0 [] [] rfl rfl h
 simp only [Nat.zero_add] at hal hkl hmk
 cases hb : Hu C.nt ops m && (mL st st.heap.length 0 ancs ks ancs ks && pk st.heap.length ancs ks) && C.P.follows .mixedOrders with
 | false => rw [hb] at hK; exact hK.elim
 | true =>
 rw [hb] at hK
 simp only [Bool.and_eq_true] at hb
 obtain ⟨⟨hdw, hfree, hkillok⟩, hmix⟩ := hb
 unfold Hu at hdw
 simp only [Bool.and_eq_true] at hdw
 obtain ⟨⟨⟨⟨hrok, htail⟩, hdst⟩, hdd⟩, hndb⟩ := hdw
 have hnd : zc ops.toArray := fun i o ho => by
  rw [List.all_eq_true] at hndb
  have := hndb o (List.mem_of_getElem? (by simpa using ho))
  simpa using this
 have hmn : m ≤ ops.length := by have := (mU htail).1; simpa using this
 have hml : (ops.take m).length = m := by rw [List.length_take]; omega
 rw [hml] at hal hkl
 have hok : E9 ops.toArray CW a := Cf (CJ hrok (by simp [hR.tsize]) rfl rfl)
 have htk : ∀ (k : Nat) (o : Oper), k < m → ops[k]? = some o → (ops.take m)[k]? = some o := fun k o hk ho => by rw [List.getElem?_take, if_pos hk]; exact ho
 have hsz : ops.toArray.size = ops.length := by simp
 have hdsts : ∀ (k : Nat) (o : Oper), k < m → ops[k]? = some o → (∃ t, o.dst = some t ∧ t < C.nt ∧ jR o.op = false) ∨ (o.dst = none ∧ jR o.op = true) := by
  have key : ∀ (l : List Oper), qB C.nt l = true → ∀ (k : Nat) (o : Oper), l[k]? = some o → (∃ t, o.dst = some t ∧ t < C.nt ∧ jR o.op = false) ∨ (o.dst = none ∧ jR o.op = true) := by
   intro l
   induction l with
   | nil => intro _ k o ho; simp at ho
   | cons x r ih =>
    intro hd k o ho
    unfold qB at hd
    simp only [Bool.and_eq_true] at hd
    cases k with
    | zero =>
     simp at ho; subst ho
     have h1 := hd.1
     split at h1
     ·rename_i t ht; simp only [Bool.and_eq_true, Bool.not_eq_true'] at h1; exact .inl ⟨t, ht, by simpa using h1.1, h1.2⟩
     ·rename_i ht; exact .inr ⟨ht, h1⟩
    | succ k => exact ih hd.2 k o (by simpa using ho)
  exact fun k o hk ho => key _ hdst k o (htk k o hk ho)
 let lsO : Array Bool → List Bool := fun listed => (List.range m).map fun j => listed.getD j false
 have hends : sZ C.P C.nt ops ovs m (ops.drop m) (eh (ops.take m) st ks (List.replicate m true)) (fun st1 => Q .normal st1) := hK
 obtain ⟨htp, htq⟩ := qz _ _ _ _ hends
 have main : ∀ (fuel : Nat) (listed : Array Bool) (env : Nat → Value) (S : Nat → Prop) (μ : Nat → Value) (a' : Act) (w : World), jM ops.toArray a listed env a' → aZ C S μ (eh (ops.take m) st ks (lsO listed)) a' w → A4 listed m = fuel → (∀ i, m ≤ i → listed.getD i false = false) →
   wpAnyIn (mV C.rd) 0 C.P .any ops.toArray (fun e a' w' => ∃ st' S' μ', Q e st' ∧ aZ C S' μ' st' a' w') (fuel + (ops.toArray.size - m)) listed a' w := by
  intro fuel
  have fin : ∀ (listed : Array Bool) (env : Nat → Value) (S : Nat → Prop) (μ : Nat → Value) (a' : Act) (w : World), jM ops.toArray a listed env a' → aZ C S μ (eh (ops.take m) st ks (lsO listed)) a' w → (∀ i, i < m → listed.getD i false = true) → (∀ i, m ≤ i → listed.getD i false = false) →
    wpAnyIn (mV C.rd) 0 C.P .any ops.toArray (fun e a' w' => ∃ st' S' μ', Q e st' ∧ aZ C S' μ' st' a' w') (ops.toArray.size - m) listed a' w := by
   intro listed env S μ a' w hF hRL hall hno
   refine uJ hok htail (ops.toArray.size - m) m listed a' w (Nat.le_refl _) (by omega) hF.lsize hall hno ?_
   have el : lsO listed = List.replicate m true := by
    apply List.ext_getElem
    ·simp [lsO]
    ·intro j h1 h2
     simp only [lsO, List.getElem_map, List.getElem_range, List.getElem_replicate]
     exact hall j (by simpa [lsO] using h1)
   rw [el] at hRL
   have hl := oa (Q := fun e a' w' => ∃ st' S' μ', Q e st' ∧ aZ C S' μ' st' a' w') (ops.drop m) m _ S μ _ w _ hRL rfl htp (fun S' μ' a' w' hR' => ⟨_, S', μ', htq, hR'⟩)
   have e := wpOpsIn_eq_wpListIn (F := mV C.rd) (n := 0) (P := C.P) (ops := ops.toArray) (Q := fun e a' w' => ∃ st' S' μ', Q e st' ∧ aZ C S' μ' st' a' w') (ops.drop m) m (fun j => by simp)
   rw [List.length_drop] at e
   rw [hsz, e]
   exact hl
  induction fuel with
  | zero =>
   intro listed env S μ a' w hF hRL hu hno
   rw [Nat.zero_add]
   exact fin listed env S μ a' w hF hRL (wc listed m hu) hno
  | succ fuel ih =>
   intro listed env S μ a' w hF hRL hu hno
   have hex : ∃ k, k < m ∧ listed.getD k false = false := by
    refine Decidable.byContradiction fun hn => ?_
    have : ∀ n, n ≤ m → A4 listed n = 0 := by
     intro n
     induction n with
     | zero => intro _; rfl
     | succ n ihn =>
      intro hnm
      have h1 : listed.getD n false = true := by
       cases h : listed.getD n false
       ·exact absurd ⟨n, by omega, h⟩ hn
       ·rfl
      simp [A4, ihn (by omega), h1]
    have := this m (Nat.le_refl _)
    omega
   rw [show fuel + 1 + (ops.toArray.size - m) = (fuel + (ops.toArray.size - m)) + 1 from by omega]
   refine ⟨fun hnil => ?_, fun i hi => ?_⟩
   ·obtain ⟨k, hk1, hk2⟩ := hex
    have := oU hok listed hF.lsize hnil k (by omega)
    rw [hk2] at this
    cases this
   obtain ⟨hnl, o, ho, hr⟩ := (eN listed hF.lsize i).1 hi
   have hlt : i < ops.toArray.size := (Array.getElem?_eq_some_iff.1 ho).1
   have hlt' : i < listed.size := by rw [hF.lsize]; exact hlt
   have him : i < m := by
    refine Decidable.byContradiction fun hn => ?_
    obtain ⟨k, hk1, hk2⟩ := hex
    have := fY hF.closed 12 i k (fun o' ho' => by rw [ho] at ho'; cases ho'; exact hr) ((mU htail).2 i (by omega) hlt k (by omega))
    rw [hk2] at this
    cases this
   have hu' : A4 (listed.setIfInBounds i true) m = fuel := by
    have := y9 listed i hlt' hnl m
    rw [if_pos him] at this
    omega
   have hno' : ∀ k, m ≤ k → (listed.setIfInBounds i true).getD k false = false := fun k hk => by
    rw [aW _ _ _ hlt', if_neg (by omega)]
    exact hno k hk
   have ho' : ops[i]? = some o := by simpa using ho
   obtain ⟨han, hcase⟩ := hmk i o (htk i o him ho')
   have hanc : ∀ j, (ancs.getD i []).getD j false = true → listed.getD j false = true :=
    ng (ops := ops) (fun i o hl ho e he hb => hF.closed i o hl (by simpa using ho) e he hb) (fun i o ho e he hb => hok.top i o (by simpa using ho) e he hb) hmn (fun j o ho => (hmk j o ho).1) hal i o him ho' hr
   have hgi : (lsO listed).getD i false = false := by rw [dJ listed m i him]; exact hnl
   have hltE : ∀ i o, ops[i]? = some o → ∀ e ∈ o.after, Region.binds .any e = true → e.on < i := fun i o ho e he hb => hok.top i o (by simpa using ho) e he hb
   have hancAll : ∀ (j : Nat) (o : Oper), (ops.take m)[j]? = some o → ancs.getD j [] = ic (ancs.take j) o.after.toList := fun j o ho => (hmk j o ho).1
   have hlist : ∀ (p : Nat), listed.getD p false = true → p < m → ∀ j, (ancs.getD p []).getD j false = true → listed.getD j false = true := fun p hp hpm j hj =>
    ng (ops := ops) (ancs := ancs) (m := m) (ls := listed) (fun i o hl ho e he hb => hF.closed i o hl (by simpa using ho) e he hb) hltE hmn hancAll hal p _ hpm (List.getElem?_eq_getElem (by omega))
     (hF.closed p _ hp (by simp)) j hj
   have hthere : ∀ (q : Nat), q < m → (ancs.getD i []).getD q false = true → ji (st.heap.length + q) (ks.take i) (ancs.getD i []) = false → ji (st.heap.length + q) ks (lsO listed) = false := by
    intro q hqm hanq hsafe
    cases hd : ji (st.heap.length + q) ks (lsO listed)
    ·rfl
    obtain ⟨p, kp, p1, p2, p3⟩ := oc hd
    have hpm : p < m := by have := (List.getElem?_eq_some_iff.1 p1).1; omega
    rw [dJ listed m p hpm] at p2
    obtain ⟨_, _, k3⟩ := ig hkillok p1 (Hq p3)
    have hip : i ≠ p := fun e => by rw [← e, hnl] at p2; cases p2
    rcases k3 i (by omega) hip (by rw [Nat.add_sub_cancel_left]; exact hanq) with k4 | k4
    ·have hpi := CZ hltE hmn hancAll i him p k4
     rw [qA (ks := ks.take i) (bs := ancs.getD i []) (p := p) (k := kp) (by rw [List.getElem?_take, if_pos hpi]; exact p1) k4 p3] at hsafe
     cases hsafe
    ·have := hlist p p2 hpm i k4
     rw [hnl] at this; cases this
   have hfillv : ∀ (q : Nat), q < m → (ancs.getD i []).getD q false = true → js (st.heap.length + q) (ks.take i) (ancs.getD i []) = js (st.heap.length + q) ks (lsO listed) := by
    intro q hqm hanq
    cases hv : js (st.heap.length + q) (ks.take i) (ancs.getD i []) with
    | none =>
     cases ha : js (st.heap.length + q) ks (lsO listed) with
     | none => rfl
     | some B =>
      exfalso
      obtain ⟨p, kp, p1, p2, p3, _⟩ := fN ha
      rw [Nat.zero_add] at p2
      have hpm : p < m := by have := (List.getElem?_eq_some_iff.1 p1).1; omega
      rw [dJ listed m p hpm] at p2
      obtain ⟨_, _, k3⟩ := ig hkillok p1 (rF p3)
      have hip : i ≠ p := fun e => by rw [← e, hnl] at p2; cases p2
      rcases k3 i (by omega) hip (by rw [Nat.add_sub_cancel_left]; exact hanq) with k4 | k4
      ·have hpi := CZ hltE hmn hancAll i him p k4
       exact jS hv p kp (by rw [List.getElem?_take, if_pos hpi]; exact p1) (by rw [Nat.zero_add]; exact k4) p3
      ·have := hlist p p2 hpm i k4
       rw [hnl] at this; cases this
    | some B =>
     obtain ⟨p, kp, p1, p2, p3, p4⟩ := fN hv
     rw [Nat.zero_add] at p2
     have hpi : p < i := by have := (List.getElem?_eq_some_iff.1 p1).1; rw [List.length_take] at this; omega
     rw [List.getElem?_take, if_pos hpi] at p1
     have hlp : (lsO listed).getD p false = true := by rw [dJ listed m p (by omega)]; exact hanc p p2
     cases ha : js (st.heap.length + q) ks (lsO listed) with
     | none => exact (jS ha p kp p1 (by rw [Nat.zero_add]; exact hlp) p3).elim
     | some B' =>
      obtain ⟨p', kp', r1, r2, r3, r4⟩ := fN ha
      have e := rI hkillok p1 r1 (rF p3) (rF r3)
      subst e
      rw [p1] at r1
      cases r1
      rw [p4, r4]
   let sti := eh (ops.take m) st (ks.take i) (ancs.getD i [])
   have hview : ∀ (j : Nat) (B : aE), sti.heap[j]? = some B → B = .dead ∨ (eh (ops.take m) st ks (lsO listed)).heap[j]? = some B := by
     intro j B hB
     show B = .dead ∨ (st.heap ++ cV st.heap.length ks (lsO listed))[j]? = some B
     have hB' : (st.heap ++ cV st.heap.length (ks.take i) (ancs.getD i []))[j]? = some B := hB
     by_cases hj : j < st.heap.length
     ·rw [List.getElem?_append_left hj] at hB' ⊢; exact .inr hB'
     ·rw [List.getElem?_append_right (by omega)] at hB' ⊢
      generalize hjj : j - st.heap.length = q at hB' ⊢
      have hql : q < (ks.take i).length := by
       have := (List.getElem?_eq_some_iff.1 hB').1
       rwa [cZ] at this
      have hkq : (ks.take i)[q]? = some ((ks.take i)[q]) := List.getElem?_eq_getElem hql
      have hqi : q < i := by rw [List.length_take] at hql; omega
      have hkq2 : ks[q]? = some ((ks.take i)[q]) := by rw [← hkq, List.getElem?_take, if_pos hqi]
      rcases jT hkq hB' with h0 | ⟨g1, g2, g3, g4⟩
      ·exact .inl h0
      ·refine .inr (rH hkq2 (by rw [dJ listed m q (by omega)]; exact hanc q g1) (hthere q (by omega) g1 g2) g3 ?_)
       rw [hfillv q (by omega) g1] at g4
       exact g4
   have hRi : aZ C S μ sti a' w := by
    have h1 := hRL.weak (env := sti.env) (fun s d hm => .inr ?_)
    ·exact h1.heapTo hview
    ·rcases List.mem_append.1 hm with hm | hm
     ·exact List.mem_append_left _ hm
     ·obtain ⟨j, oj, kj, q1, q2, q3, q4, rfl⟩ := fO hm
      have hji : j < i := by
       have := (List.getElem?_eq_some_iff.1 q2).1
       rw [List.length_take] at this; omega
      refine List.mem_append_right _ (lF j q1 (by rw [← q2, List.getElem?_take, if_pos hji]) ?_ q4)
      rw [dJ listed m j (by omega)]
      exact hanc j q3
   have hlenk : (cV st.heap.length (ks.take i) (ancs.getD i [])).length = i := by rw [cZ, List.length_take]; omega
   have hsl : sti.heap.length = st.heap.length + i := by
    show (st.heap ++ _).length = _
    rw [List.length_append, hlenk]
   have ls' : ∀ j, (lsO (listed.setIfInBounds i true)).getD j false = (if j = i then true else (lsO listed).getD j false) := by
    intro j
    by_cases hj : j < m
    ·rw [dJ _ m j hj, dJ _ m j hj, aW _ _ _ hlt']
    ·rw [po _ m j (by omega), po _ m j (by omega), if_neg (by omega)]
   have hki : ∃ k, ks[i]? = some k := ⟨_, List.getElem?_eq_getElem (by omega)⟩
   obtain ⟨ki, hki⟩ := hki
   have hdold : ∀ (q : Nat), ji (st.heap.length + q) ks (lsO (listed.setIfInBounds i true)) = false → ji (st.heap.length + q) ks (lsO listed) = false := by
    intro q hq
    cases hd : ji (st.heap.length + q) ks (lsO listed)
    ·rfl
    ·obtain ⟨p, kp, p1, p2, p3⟩ := oc hd
     have := qA (bs := lsO (listed.setIfInBounds i true)) p1 (by rw [ls']; split; rfl; exact p2) p3
     rw [this] at hq; cases hq
   have hfsame : ∀ (q : Nat), ki.fil ≠ some (st.heap.length + q) → js (st.heap.length + q) ks (lsO listed) = js (st.heap.length + q) ks (lsO (listed.setIfInBounds i true)) := by
    intro q hq
    refine pV (fun p kp p1 p2 => ?_)
    rw [Nat.zero_add, ls', if_neg]
    rintro rfl
    rw [hki] at p1
    cases p1
    exact hq p2
   have hnew : ki.fil = none → ∀ (q : Nat) (B : aE), (cV st.heap.length ks (lsO (listed.setIfInBounds i true)))[q]? = some B → B = .dead ∨ (q = i ∧ B = ki.b) ∨ (q ≠ i ∧ (cV st.heap.length ks (lsO listed))[q]? = some B ∧ ji (st.heap.length + q) ks (lsO (listed.setIfInBounds i true)) = false) := by
    intro hnf q B hB
    have hql : q < ks.length := by
     have := (List.getElem?_eq_some_iff.1 hB).1
     rwa [cZ] at this
    have hkq : ks[q]? = some ks[q] := List.getElem?_eq_getElem hql
    rcases jT hkq hB with h0 | ⟨g1, g2, g3, g4⟩
    ·exact .inl h0
    by_cases e : q = i
    ·subst e
     rw [hki] at hkq
     rcases g4 with ⟨_, g5⟩ | g5
     ·refine .inr (.inl ⟨rfl, ?_⟩)
      rw [g5]
      simp only [Option.some.injEq] at hkq
      rw [← hkq]
     ·exfalso
      obtain ⟨p, kp, p1, p2, p3, _⟩ := fN g5
      rw [Nat.zero_add, ls'] at p2
      obtain ⟨_, k2, _⟩ := ig hkillok p1 (rF p3)
      rw [Nat.add_sub_cancel_left] at k2
      by_cases hpq : p = q
      ·subst hpq
       rw [hki] at p1
       cases p1
       rw [hnf] at p3; cases p3
      ·rw [if_neg hpq] at p2
       have hpm : p < m := by have := (List.getElem?_eq_some_iff.1 p1).1; omega
       rw [dJ listed m p hpm] at p2
       have := hlist p p2 hpm q k2
       rw [hnl] at this; cases this
    ·refine .inr (.inr ⟨e, rH hkq ?_ (hdold q g2) g3 ?_, g2⟩)
     ·have e2 := ls' q
      rw [if_neg e] at e2
      rw [← e2]; exact g1
     ·rw [hfsame q (by rw [hnf]; simp)]; exact g4
   have join0 : ∀ (t : Nat), o.dst = some t → ∀ (S' : Nat → Prop) (μ' : Nat → Value) (u : Value) (w' : World) (env' : List (Nat × D)) (H' : List aE), aZ C S' μ' ⟨env', H'⟩ (a'.put o.dst u) w' → (∀ s d, (s, d) ∈ (eh (ops.take m) st ks (lsO listed)).env → s ≠ t → (s, d) ∈ env') → (t, ki.d) ∈ env' →
     (∀ (j : Nat) (B : aE), (eh (ops.take m) st ks (lsO (listed.setIfInBounds i true))).heap[j]? = some B → B = .dead ∨ H'[j]? = some B) → aZ C S' μ' (eh (ops.take m) st ks (lsO (listed.setIfInBounds i true))) (a'.put o.dst u) w' := by
    intro t hdt S' μ' u w' env' H' hR' he1 he2 hH
    have h2 := hR'.weak (env := (eh (ops.take m) st ks (lsO (listed.setIfInBounds i true))).env) (fun s d hm => .inr ?_)
    ·exact h2.heapTo hH
    ·rcases List.mem_append.1 hm with hm | hm
     ·refine he1 s d (List.mem_append_left _ hm) ?_
      rintro rfl
      exact (jt hm).2 o (List.mem_of_getElem? (htk i o him ho')) hdt
     ·obtain ⟨j, oj, kj, q1, q2, q3, q4, rfl⟩ := fO hm
      by_cases hj : j = i
      ·subst hj
       rw [hki] at q2; cases q2
       rw [htk j o him ho'] at q1; cases q1
       rw [hdt] at q4; cases q4
       exact he2
      ·rw [ls', if_neg hj] at q3
       refine he1 s kj.d (List.mem_append_right _ (lF j q1 q2 q3 q4)) ?_
       rintro rfl
       exact hj (tV hdd j i oj o s q1 (htk i o him ho') q4 hdt)
   have hlenA : (eh (ops.take m) st ks (lsO listed)).heap.length = st.heap.length + ks.length := by
    show (st.heap ++ cV st.heap.length ks (lsO listed)).length = _
    rw [List.length_append, cZ]
   have hil : i < ks.length := (List.getElem?_eq_some_iff.1 hki).1
   have join : ∀ (t : Nat), o.dst = some t → t < C.nt → ki.fil = none → ∀ (S' : Nat → Prop) (μ' : Nat → Value) (u : Value) (w' : World) (H' : List aE), aZ C S' μ' ⟨(eh (ops.take m) st ks (lsO listed)).env, H'⟩ a' w' → H' = (eh (ops.take m) st ks (lsO listed)).heap.set (st.heap.length + i) ki.b → ar S' μ' w' ki.d u → aZ C S' μ' (eh (ops.take m) st ks (lsO (listed.setIfInBounds i true))) (a'.put o.dst u) w' := by
    intro t hdt htn hnf S' μ' u w' H' hR' hH' hd
    subst hH'
    have h1 := hR'.put htn hd
    rw [← hdt] at h1
    refine join0 t hdt S' μ' u w' _ _ h1 (fun s d hm hs => List.mem_cons_of_mem _ (ju hm hs)) (List.mem_cons_self ..) (fun j B hB => ?_)
    show B = .dead ∨ ((eh (ops.take m) st ks (lsO listed)).heap.set (st.heap.length + i) ki.b)[j]? = some B
    have hB' : (st.heap ++ cV st.heap.length ks (lsO (listed.setIfInBounds i true)))[j]? = some B := hB
    by_cases hj2 : j < st.heap.length
    ·rw [List.getElem?_append_left hj2] at hB'
     rw [List.getElem?_set_ne (by omega)]
     refine .inr ?_
     show (st.heap ++ cV st.heap.length ks (lsO listed))[j]? = some B
     rw [List.getElem?_append_left hj2]; exact hB'
    ·rw [List.getElem?_append_right (by omega)] at hB'
     rcases hnew hnf _ B hB' with h1 | ⟨h1, rfl⟩ | ⟨h1, h2, _⟩
     ·exact .inl h1
     ·rw [show j = st.heap.length + i by omega, List.getElem?_set_self (by rw [hlenA]; omega)]
      exact .inr rfl
     ·rw [List.getElem?_set_ne (by omega)]
      refine .inr ?_
      show (st.heap ++ cV st.heap.length ks (lsO listed))[j]? = some B
      rw [List.getElem?_append_right (by omega)]; exact h2
   have hdeadi : (eh (ops.take m) st ks (lsO listed)).heap[st.heap.length + i]? = some .dead := by
    show (st.heap ++ cV st.heap.length ks (lsO listed))[st.heap.length + i]? = some .dead
    rw [List.getElem?_append_right (by omega), Nat.add_sub_cancel_left, lH _ _ _ _ _ hki, if_neg (by rw [hgi]; simp)]
   have next : ∀ (S' : Nat → Prop) (μ' : Nat → Value) (u : Value) (w' : World), aZ C S' μ' (eh (ops.take m) st ks (lsO (listed.setIfInBounds i true))) (a'.put o.dst u) w' →
     wpAnyIn (mV C.rd) 0 C.P .any ops.toArray (fun e a' w' => ∃ st' S' μ', Q e st' ∧ aZ C S' μ' st' a' w') (fuel + (ops.toArray.size - m)) (listed.setIfInBounds i true) (a'.put o.dst u) w' :=
    fun S' μ' u w' hR' => ih _ _ S' μ' _ w' (hF.step hok ho hnl hr u) hR' hu' hno'
   have joinN : ∀ (S' : Nat → Prop) (μ' : Nat → Value) (w' : World) (H' : List aE), o.dst = none → aZ C S' μ' ⟨(eh (ops.take m) st ks (lsO listed)).env, H'⟩ a' w' →
     (∀ (j : Nat) (B : aE), (eh (ops.take m) st ks (lsO (listed.setIfInBounds i true))).heap[j]? = some B → B = .dead ∨ H'[j]? = some B) → aZ C S' μ' (eh (ops.take m) st ks (lsO (listed.setIfInBounds i true))) a' w' := by
    intro S' μ' w' H' hdn hR' hH
    have h2 := hR'.weak (env := (eh (ops.take m) st ks (lsO (listed.setIfInBounds i true))).env) (fun s d hm => .inr ?_)
    ·exact h2.heapTo hH
    ·rcases List.mem_append.1 hm with hm | hm
     ·exact List.mem_append_left _ hm
     ·obtain ⟨j, oj, kj, q1, q2, q3, q4, rfl⟩ := fO hm
      by_cases hj : j = i
      ·subst hj
       rw [htk j o him ho'] at q1; cases q1
       rw [hdn] at q4; cases q4
      ·rw [ls', if_neg hj] at q3
       exact List.mem_append_right _ (lF j q1 q2 q3 q4)
   unfold wpOpIn
   simp only [ho]
   rcases hdsts i o him ho' with ⟨t, hdt, htn, hns⟩ | ⟨hdn, hst⟩
   rotate_left
   ·-- a store that fills
    have hnext0 : ∀ (S' : Nat → Prop) (μ' : Nat → Value) (w' : World), aZ C S' μ' (eh (ops.take m) st ks (lsO (listed.setIfInBounds i true))) a' w' →
      wpAnyIn (mV C.rd) 0 C.P .any ops.toArray (fun e a' w' => ∃ st' S' μ', Q e st' ∧ aZ C S' μ' st' a' w') (fuel + (ops.toArray.size - m)) (listed.setIfInBounds i true) a' w' := by
     intro S' μ' w' hR'
     have hput : a'.put o.dst undef = a' := by rw [hdn]; rfl
     have h1 := next S' μ' undef w' (by rw [hput]; exact hR')
     rw [hput] at h1
     exact h1
    have hsame : ki.fil = none → ki.b = .dead → ∀ (j : Nat) (B : aE), (eh (ops.take m) st ks (lsO (listed.setIfInBounds i true))).heap[j]? = some B → B = .dead ∨ (eh (ops.take m) st ks (lsO listed)).heap[j]? = some B := by
     intro hnf hbd j B hB
     have hB' : (st.heap ++ cV st.heap.length ks (lsO (listed.setIfInBounds i true)))[j]? = some B := hB
     show B = .dead ∨ (st.heap ++ cV st.heap.length ks (lsO listed))[j]? = some B
     by_cases hj2 : j < st.heap.length
     ·rw [List.getElem?_append_left hj2] at hB' ⊢; exact .inr hB'
     ·rw [List.getElem?_append_right (by omega)] at hB' ⊢
      rcases hnew hnf _ B hB' with h1 | ⟨_, h1⟩ | ⟨_, h2, _⟩
      ·exact .inl h1
      ·rw [hbd] at h1; exact .inl h1
      ·exact .inr h2
    rcases hcase with ⟨hg, k, p, hq, hp, hk⟩ | ⟨hg, hk⟩
    ·rw [hki] at hk
     cases hk
     rw [if_pos (by rw [cz hRi hg])]
     cases hop : o.op <;> rw [hop] at hst <;> try (cases hst)
     rename_i ty ad x
     rw [hop] at hq
     obtain ⟨id, T, cs, cs', f1, f2, f3⟩ := yq hq hp
     have f1' : (eh (ops.take m) st ks (lsO listed)).heap[id]? = some (.var T cs) := (hview id _ f1).resolve_left (by simp)
     obtain ⟨w', h1, h2⟩ := nX hRL (hRi.eval ad) (hRi.eval x) (f3 _ f1') trivial
     have hr : (execOp a'.eval o).run C.P w = .ok .skip w' := by
      simp only [execOp, hop, Sem.run_bind, h1, Result.andThen_ok, Sem.run_pure]
     have hkb : ki.b = .var T cs' := by rw [f2]
     have hkl : ki.kl = some id := by rw [f2]
     have hkf : ki.fil = some id := by unfold Mk.fil; rw [hkb]; exact hkl
     obtain ⟨k1, k2, _⟩ := ig hkillok hki hkl
     refine I6 hnd ho ?_
     rw [hr, Oper.uponIn_skip, hdn]
     refine hnext0 S μ w' (joinN S μ w' _ hdn h2 (fun j B hB => ?_))
     have hB' : (st.heap ++ cV st.heap.length ks (lsO (listed.setIfInBounds i true)))[j]? = some B := hB
     have hidl : id < (eh (ops.take m) st ks (lsO listed)).heap.length := (List.getElem?_eq_some_iff.1 f1').1
     by_cases hj2 : j < st.heap.length
     ·rw [List.getElem?_append_left hj2] at hB'
      rw [List.getElem?_set_ne (by omega)]
      refine .inr ?_
      show (st.heap ++ cV st.heap.length ks (lsO listed))[j]? = some B
      rw [List.getElem?_append_left hj2]; exact hB'
     ·rw [List.getElem?_append_right (by omega)] at hB'
      generalize hjq : j - st.heap.length = q at hB'
      have hje : j = st.heap.length + q := by omega
      have hql : q < ks.length := by
       have := (List.getElem?_eq_some_iff.1 hB').1
       rwa [cZ] at this
      have hkq : ks[q]? = some ks[q] := List.getElem?_eq_getElem hql
      rcases jT hkq hB' with h0 | ⟨g1, g2, g3, g4⟩
      ·exact .inl h0
      have hqi : q ≠ i := fun e => by
       subst e
       rw [hki] at hkq
       simp only [Option.some.injEq] at hkq
       rw [← hkq, hkf] at g3; cases g3
      by_cases e : j = id
      ·refine .inr ?_
       rw [e, List.getElem?_set_self hidl]
       have hfi : js (st.heap.length + q) ks (lsO (listed.setIfInBounds i true)) = some B → B = ki.b := fun g5 => by
        obtain ⟨p', kp, p1, p2, p3, p4⟩ := fN g5
        have e3 := rI hkillok p1 hki (rF p3) (by rw [hkl, ← e, hje])
        subst e3
        rw [hki] at p1
        cases p1
        exact p4
       rcases g4 with ⟨g5, _⟩ | g5
       ·exact (jS g5 i ki hki (by rw [Nat.zero_add, ls', if_pos rfl]) (by rw [hkf, ← e, hje])).elim
       ·rw [hfi g5, hkb]
      ·rw [List.getElem?_set_ne (Ne.symm e)]
       refine .inr ?_
       show (st.heap ++ cV st.heap.length ks (lsO listed))[j]? = some B
       rw [List.getElem?_append_right (by omega), hjq]
       refine rH hkq ?_ (hdold q g2) g3 ?_
       ·have e2 := ls' q
        rw [if_neg hqi] at e2
        rw [← e2]; exact g1
       ·rw [hfsame q (by rw [hkf, ← hje]; intro h; cases h; exact e rfl)]; exact g4
    ·rw [hki] at hk
     cases hk
     rw [if_neg (by rw [cz hRi hg]; simp)]
     have h9 := hnext0 S μ w (joinN S μ w _ hdn hRL (hsame rfl rfl))
     refine ⟨fun f _ => oV C.rd f, ?_⟩
     rw [hdn]
     exact h9
   rcases hcase with ⟨hg, k, p, hq, hp, hk⟩ | ⟨hg, hk⟩
   ·rw [hki] at hk
    cases hk
    rw [if_pos (by rw [cz hRi hg])]
    have hfr2 : ki.b.live = true ∨ ki.kl.isSome = true → bQ (st.heap.length + i) (eh (ops.take m) st ks (lsO listed)).env = true ∧ bL (st.heap.length + i) (eh (ops.take m) st ks (lsO listed)).heap = true := by
     intro hlive
     obtain ⟨f1, f2, f3⟩ := tU hfree i _ ki (List.getElem?_eq_getElem (show i < ancs.length by omega)) hki hlive
     rw [Nat.zero_add] at f1 f2 f3
     have hfr : ∀ (j : Nat) (k : Mk), ks[j]? = some k → (lsO listed).getD j false = true → D.free (st.heap.length + i) k.d = true ∧ aE.free (st.heap.length + i) k.b = true := by
      intro j k hkj hlj
      have hjm : j < m := by have := (List.getElem?_eq_some_iff.1 hkj).1; omega
      rw [dJ listed m j hjm] at hlj
      rcases tT f3 j _ k (List.getElem?_eq_getElem (show j < ancs.length by omega)) hkj with h1 | h1 | h1
      ·rw [Nat.zero_add] at h1; subst h1; rw [hnl] at hlj; cases hlj
      ·exfalso
       have hoj : ops[j]? = some (ops[j]'(by omega)) := List.getElem?_eq_getElem (by omega)
       have := ng (ops := ops) (ancs := ancs) (m := m) (ls := listed) (fun i o hl ho e he hb => hF.closed i o hl (by simpa using ho) e he hb) (fun i o ho e he hb => hok.top i o (by simpa using ho) e he hb) hmn (fun j o ho => (hmk j o ho).1) hal j _ hjm hoj
        (hF.closed j _ hlj (by simp)) i (by
         have e : ancs.getD j [] = ancs[j]'(by omega) := by simp [List.getD, List.getElem?_eq_getElem (show j < ancs.length by omega)]
         rw [e]; exact h1)
       rw [hnl] at this; cases this
      ·exact h1
     refine ⟨wH (fun s d hm => ?_), og (fun j B hB => ?_)⟩
     ·rcases List.mem_append.1 hm with hm | hm
      ·exact dW f1 (jt hm).1
      ·obtain ⟨j, oj, kj, q1, q2, q3, q4, rfl⟩ := fO hm
       exact (hfr j kj q2 q3).1
     ·have hB' : (st.heap ++ cV st.heap.length ks (lsO listed))[j]? = some B := hB
      by_cases hj2 : j < st.heap.length
      ·rw [List.getElem?_append_left hj2] at hB'; exact df f2 hB'
      ·rw [List.getElem?_append_right (by omega)] at hB'
       generalize hq2 : j - st.heap.length = q at hB'
       have hql : q < ks.length := by
        have := (List.getElem?_eq_some_iff.1 hB').1
        rwa [cZ] at this
       have hkq : ks[q]? = some ks[q] := List.getElem?_eq_getElem hql
       rcases jT hkq hB' with rfl | ⟨g1, _, _, g4⟩
       ·rfl
       ·rcases g4 with ⟨_, rfl⟩ | g5
        ·exact (hfr q _ hkq g1).2
        ·obtain ⟨p', kp, p1, p2, _, rfl⟩ := fN g5
         rw [Nat.zero_add] at p2
         exact (hfr p' kp p1 p2).2
    have hkill : ∀ (u : Value) (w' : World) (id0 : Nat) (A0 B0 : aE), ki.kl = some id0 → sti.heap[id0]? = some A0 → A0.isArr = true → B0.isArr = true → w.grownBy w' (az (μ id0)) → aP S μ w' u B0 → (∀ b, az u = some b → az (μ id0) = some b ∨ w.heap.size ≤ b) →
      ((ki.b = B0 ∧ ki.d = .own sti.heap.length) ∨ ∃ (E sz : Nat) (α : Type) (enc : α → List V) (d : α) (l : List α), B0 = .arr E sz enc d l ∧ ki.b = .dead ∧ ki.d = .v (.sl sz enc d l)) → ∃ S' μ', aZ C S' μ' (eh (ops.take m) st ks (lsO (listed.setIfInBounds i true))) (a'.put o.dst u) w' := by
     intro u w' id0 A0 B0 hkl hA0 hAa hBa hgr hbox hblk hval
     obtain ⟨k1, k2, _⟩ := ig hkillok hki hkl
     have hnf : ki.fil = none := Fo (by
      rcases hval with ⟨e1, _⟩ | ⟨_, _, _, _, _, _, _, e1, _⟩
      ·exact .inl (by rw [e1]; exact hBa)
      ·exact .inr e1)
     obtain ⟨f1, f2⟩ := hfr2 (.inr (by rw [hkl]; rfl))
     have hAl : A0.live = true := by cases A0 <;> first | rfl | cases hAa
     have hBl : B0.live = true := by cases B0 <;> first | rfl | cases hBa
     have hAct : (eh (ops.take m) st ks (lsO listed)).heap[id0]? = some A0 := by
      refine (hview id0 A0 hA0).resolve_left (fun e => ?_)
      rw [e] at hAl; cases hAl
     have hne : id0 ≠ st.heap.length + i := fun e => by rw [e, hdeadi] at hAct; cases hAct; cases hAl
     have h1 := hRL.alias hAct hAa hdeadi f1 f2
     have hPl : st.heap.length + i < (eh (ops.take m) st ks (lsO listed)).heap.length := by rw [hlenA]; omega
     have hidl : id0 < (eh (ops.take m) st ks (lsO listed)).heap.length := (List.getElem?_eq_some_iff.1 hAct).1
     let H1 := ((eh (ops.take m) st ks (lsO listed)).heap.set id0 .dead).set (st.heap.length + i) A0
     have hH1P : H1[st.heap.length + i]? = some A0 := List.getElem?_set_self (by rw [List.length_set]; exact hPl)
     have hH1 : ∀ j, j ≠ st.heap.length + i → j ≠ id0 → H1[j]? = (eh (ops.take m) st ks (lsO listed)).heap[j]? := fun j h1 h2 => by
      show (((eh (ops.take m) st ks (lsO listed)).heap.set id0 .dead).set (st.heap.length + i) A0)[j]? = _
      rw [List.getElem?_set_ne (Ne.symm h1), List.getElem?_set_ne (Ne.symm h2)]
     have hfH1 : bL (st.heap.length + i) H1 = true := og (fun j B hB => by
      by_cases e1 : j = st.heap.length + i
      ·rw [e1, hH1P] at hB; cases hB; cases A0 <;> first | rfl | cases hAa
      ·by_cases e2 : j = id0
       ·subst e2
        have : H1[j]? = some .dead := by
         show (((eh (ops.take m) st ks (lsO listed)).heap.set j .dead).set (st.heap.length + i) A0)[j]? = _
         rw [List.getElem?_set_ne (Ne.symm e1), List.getElem?_set_self hidl]
        rw [this] at hB; cases hB; rfl
       ·rw [hH1 j e1 e2] at hB; exact df f2 hB)
     have h2 := h1.upd0 (id := st.heap.length + i) (B := B0) (row := az (μ id0)) (u := u) hgr (fun k hk => ⟨A0, hH1P, hAl, by rw [aD]; exact hk⟩) (by show _ ≤ H1.length; simp [H1]; omega) (hbox.arrMu hBa) hblk (.inr ⟨f1, hfH1⟩) (kH hBa)
     have hset : bG H1 (st.heap.length + i) B0 = H1.set (st.heap.length + i) B0 := by
      unfold bG
      rw [if_neg (by
       intro hh; rw [Nat.beq_eq] at hh
       have : H1.length = (eh (ops.take m) st ks (lsO listed)).heap.length := by simp [H1]
       omega)]
     have h2' : aZ C S (bt (bt μ (st.heap.length + i) (μ id0)) (st.heap.length + i) u) ⟨(eh (ops.take m) st ks (lsO listed)).env, H1.set (st.heap.length + i) B0⟩ a' w' := by rw [← hset]; exact h2
     have hown : ar S (bt (bt μ (st.heap.length + i) (μ id0)) (st.heap.length + i) u) w' (.own (st.heap.length + i)) u := by
      have := ar.own (S := S) (μ := bt (bt μ (st.heap.length + i) (μ id0)) (st.heap.length + i) u) (w := w') (st.heap.length + i)
      rwa [aD] at this
     have h3 := h2'.put htn hown
     rw [← hdt] at h3
     have hH1l : H1.length = (eh (ops.take m) st ks (lsO listed)).heap.length := by simp [H1]
     have hlive3 : ∀ (j : Nat) (B : aE), (eh (ops.take m) st ks (lsO (listed.setIfInBounds i true))).heap[j]? = some B → B = .dead ∨ (j = st.heap.length + i ∧ B = ki.b) ∨ (j ≠ st.heap.length + i ∧ H1[j]? = some B ∧ aE.free (st.heap.length + i) B = true) := by
      intro j B hB
      have hB' : (st.heap ++ cV st.heap.length ks (lsO (listed.setIfInBounds i true)))[j]? = some B := hB
      by_cases hj2 : j < st.heap.length
      ·rw [List.getElem?_append_left hj2] at hB'
       have hold : (eh (ops.take m) st ks (lsO listed)).heap[j]? = some B := by
        show (st.heap ++ cV st.heap.length ks (lsO listed))[j]? = some B
        rw [List.getElem?_append_left hj2]; exact hB'
       exact .inr (.inr ⟨by omega, by rw [hH1 j (by omega) (by omega)]; exact hold, df f2 hold⟩)
      ·rw [List.getElem?_append_right (by omega)] at hB'
       rcases hnew hnf _ B hB' with q1 | ⟨q1, rfl⟩ | ⟨q1, q2, q3⟩
       ·exact .inl q1
       ·exact .inr (.inl ⟨by omega, rfl⟩)
       ·have hold : (eh (ops.take m) st ks (lsO listed)).heap[j]? = some B := by
         show (st.heap ++ cV st.heap.length ks (lsO listed))[j]? = some B
         rw [List.getElem?_append_right (by omega)]; exact q2
        have hjid : j ≠ id0 := fun e => by
         rw [show st.heap.length + (j - st.heap.length) = id0 by omega, qA (bs := lsO (listed.setIfInBounds i true)) hki (by rw [ls', if_pos rfl]) (by rw [Hr hnf]; exact hkl)] at q3
         cases q3
        exact .inr (.inr ⟨by omega, by rw [hH1 j (by omega) hjid]; exact hold, df f2 hold⟩)
     rcases hval with ⟨e1, e2⟩ | ⟨E, sz, α, enc, d, l, rfl, e1, e2⟩
     ·refine ⟨_, _, join0 t hdt S _ u w' _ _ h3 (fun s d hm hs => List.mem_cons_of_mem _ (ju hm hs)) (by rw [e2, hsl]; exact List.mem_cons_self ..) (fun j B hB => ?_)⟩
      rcases hlive3 j B hB with q1 | ⟨rfl, rfl⟩ | ⟨q1, q2, _⟩
      ·exact .inl q1
      ·refine .inr ?_
       rw [List.getElem?_set_self (by rw [hH1l]; exact hPl), e1]
      ·refine .inr ?_
       rw [List.getElem?_set_ne (Ne.symm q1)]; exact q2
     ·have hbx : (H1.set (st.heap.length + i) (aE.arr E sz enc d l))[st.heap.length + i]? = some (aE.arr E sz enc d l) := List.getElem?_set_self (by rw [hH1l]; exact hPl)
      obtain ⟨S3, h4⟩ := h3.freezeZ (id := st.heap.length + i) (Z := aE.arr E sz enc d l) (z := .sl (.sl sz enc d l)) hbx rfl (f7 (h3.heap.box _ _ hbx) (fun b hb => .inl hb) (fun b hb => .inr hb) h3.slt)
      refine ⟨S3, _, join0 t hdt S3 _ u w' _ _ h4 (fun s d' hm hs => ?_) ?_ (fun j B hB => ?_)⟩
      ·have := rL (id := st.heap.length + i) (x := .sl (.sl sz enc d l)) (List.mem_cons_of_mem (t, D.own (st.heap.length + i)) (ju (t := t) hm hs))
       rwa [o9 d' (dW f1 hm)] at this
      ·have := rL (id := st.heap.length + i) (x := .sl (.sl sz enc d l)) (List.mem_cons_self (a := (t, D.own (st.heap.length + i))) (l := pR (eh (ops.take m) st ks (lsO listed)).env t))
       have e : mq (st.heap.length + i) (.sl (.sl sz enc d l)) (.own (st.heap.length + i)) = .v (.sl sz enc d l) := by simp [mq, Fz.own]
       rw [e2, ← e]
       exact this
      ·rcases hlive3 j B hB with q1 | ⟨_, rfl⟩ | ⟨q1, q2, q3⟩
       ·exact .inl q1
       ·exact .inl e1
       ·refine .inr ?_
        show ((fo (st.heap.length + i) (.sl (.sl sz enc d l)) (H1.set (st.heap.length + i) (aE.arr E sz enc d l))).set (st.heap.length + i) .dead)[j]? = some B
        rw [List.getElem?_set_ne (Ne.symm q1), jo, List.getElem?_set_ne (Ne.symm q1), q2, Option.map_some, tv B q3]
    rw [CU hns] at hq
    refine I6 hnd ho (mB.uponIn (yu hRi.heap hRi.slt (fun x => hRi.eval x) hq hp (R := fun u w' => ∃ S' μ', aZ C S' μ' (eh (ops.take m) st ks (lsO (listed.setIfInBounds i true))) (a'.put o.dst u) w') ?_) (fun u w' hex => ?_))
    ·rintro u w' (⟨hkl, hbel, hc⟩ | ⟨id0, A0, B0, hkl, hA0, hAa, hBa, hgr, hbox, hblk, hval⟩)
     rotate_left
     ·exact hkill u w' id0 A0 B0 hkl hA0 hAa hBa hgr hbox hblk hval
     rcases hc with ⟨hbd, hd⟩ | ⟨obj, hlive, rfl, hbox, hd, hblk⟩ | ⟨S2, μ1, u0, hBA, s1, s2, s3, hbox, hd, hblk⟩
     ·-- no box
      refine ⟨fun b => S b ∨ (w.heap.size ≤ b ∧ b < w'.heap.size), μ, join t hdt htn (rG hkl) _ μ u w' (H' := (eh (ops.take m) st ks (lsO listed)).heap.set (st.heap.length + i) ki.b) ?_ rfl ?_⟩
      ·rw [hbd, wG hdeadi]
       exact hRL.grow hbel.os hbel.tape hbel.output hbel.size hbel.block (fun b hb => .inl hb) (fun b hb => hb.imp (fun h => h) (fun h => h.1)) (fun b hb => by
        rcases hb with hb | hb
        ·exact Nat.lt_of_lt_of_le (hRL.slt b hb) hbel.size
        ·exact hb.2)
      ·exact hd.stable (fun b hb hl => hb.imp (fun h => h) (fun h => ⟨h, hl⟩)) (fun _ _ _ => rfl) (Nat.le_refl _) (fun _ _ => rfl)
     ·-- a new box
      rw [hsl] at hbox hd
      refine ⟨S, bt μ (st.heap.length + i) u, join t hdt htn (rG hkl) S _ u _ (H' := bG (eh (ops.take m) st ks (lsO listed)).heap (st.heap.length + i) ki.b) ?_ ?_ hd⟩
      ·refine hRL.upd0 (World.grownBy_alloc w obj none) (fun k hk => by cases hk) ?_ hbox (fun b hb => .inr (by rw [hblk b hb]; exact Nat.le_refl _)) ?_ (A6 hlive)
       ·have := (List.getElem?_eq_some_iff.1 hdeadi).1; omega
       ·refine .inr ?_
        exact hfr2 (.inl hlive)
      ·unfold bG
       rw [if_neg (by
        have := (List.getElem?_eq_some_iff.1 hdeadi).1
        intro hh; rw [Nat.beq_eq] at hh; omega)]
     ·-- a box that a call hands over
      rw [hsl] at hd
      have hlive : ki.b.live = true := by cases hkb : ki.b <;> first | rfl | (rw [hkb] at hBA; cases hBA)
      refine ⟨S2, bt μ (st.heap.length + i) u0, join t hdt htn (rG hkl) S2 _ u _ (H' := (eh (ops.take m) st ks (lsO listed)).heap.set (st.heap.length + i) ki.b) ?_ rfl hd⟩
      have hG : aZ C S2 μ (eh (ops.take m) st ks (lsO listed)) a' w' := hRL.grow hbel.os hbel.tape hbel.output hbel.size hbel.block s1 s2 s3
      refine hG.addAt hdeadi (hfr2 (.inl hlive)).1 (hfr2 (.inl hlive)).2 hBA hbox (fun b hb => ?_)
      obtain ⟨k1, k2⟩ := hblk b hb
      refine ⟨Nat.le_trans hRL.size k1, k2, fun j A hA la hbk => ?_⟩
      have := (hRL.heap.box j A hA).lt la b hbk
      omega
    ·obtain ⟨S', μ', hR'⟩ := hex
     exact next S' μ' u w' hR'
   ·rw [hki] at hk
    cases hk
    rw [if_neg (by rw [cz hRi hg]; simp)]
    refine ⟨fun f _ => oV C.rd f, next S μ undef w (join t hdt htn rfl S μ undef w (H' := (eh (ops.take m) st ks (lsO listed)).heap.set (st.heap.length + i) .dead) ?_ rfl (.tup [] #[] rfl (fun j y u hy _ => by simp at hy)))⟩
    rw [wG hdeadi]
    exact hRL
 have h0 : aZ C S μ (eh (ops.take m) st ks (lsO (Array.replicate ops.toArray.size false))) a w.drew := by
  have hd : aZ C S μ st a w.drew := hR.grow rfl rfl rfl (Nat.le_refl _) (fun _ _ => rfl) (fun _ h => h) (fun _ h => .inl h) hR.slt
  have hf : ∀ j, (lsO (Array.replicate ops.toArray.size false)).getD j false = false := by
   intro j
   by_cases hj : j < m
   ·rw [dJ _ m j hj]; simp [Array.getD]
   ·exact po _ m j (by omega)
  have h1 := hd.weak (env := (eh (ops.take m) st ks (lsO (Array.replicate ops.toArray.size false))).env) (fun s d hm => .inr ?_)
  ·refine h1.heapTo (fun j B hB => ?_)
   have hB' : (st.heap ++ cV st.heap.length ks (lsO (Array.replicate ops.toArray.size false)))[j]? = some B := hB
   by_cases hj : j < st.heap.length
   ·rw [List.getElem?_append_left hj] at hB'; exact .inr hB'
   ·rw [List.getElem?_append_right (by omega)] at hB'
    generalize hjj : j - st.heap.length = q at hB'
    have hql : q < ks.length := by
     have := (List.getElem?_eq_some_iff.1 hB').1
     rwa [cZ] at this
    rw [lH _ _ _ _ _ (List.getElem?_eq_getElem hql), hf q, if_neg (by simp)] at hB'
    cases hB'
    exact .inl rfl
  ·rcases List.mem_append.1 hm with hm | hm
   ·exact (jt hm).1
   ·obtain ⟨j, oj, kj, q1, q2, q3, q4, rfl⟩ := fO hm
    rw [hf j] at q3; cases q3
 have key := main m (Array.replicate ops.toArray.size false) (fun _ => undef) S μ a w.drew ?_ h0 (mC _ _ (by rw [hsz]; exact hmn)) (fun i _ => by simp [Array.getD])
 ·rw [show m + (ops.toArray.size - m) = ops.toArray.size from by rw [hsz]; omega] at key
  exact wpIn_region_any hmix key
 ·have hf : ∀ k, (Array.replicate ops.toArray.size false).getD k false = true → False := by
   intro k hk
   simp [Array.getD] at hk
  exact ⟨by simp, fun i o h => (hf i h).elim, rfl, rfl, fun _ _ => rfl, fun j t h => (hf j h).elim⟩
end
end Go.Proofs.Ytnlmlkbaflmgcaa
