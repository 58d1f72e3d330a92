/-
  Package bits: the tables of operators; Width, Apply.
-/
import Derived.Test.YtaghhicmnalmmaaQVbB
namespace Go.Proofs.Ytaghhicmnalmmaa
open Go.RowKit
set_option linter.unusedVariables false
set_option linter.unusedSimpArgs false
abbrev bI : ak := (.var 57 [(i6 0),(.v .nilf),(.v .nilf)])
abbrev ay (op : Int) : D := (i6 (am op))
abbrev a4 : D := (.ptr 1 0 0 0)
abbrev a7 : D := (.ptr 2 0 0 0)
set_option maxRecDepth 100000
def bT : List (Int × Value) := [(2,.agg #[.int .i64 1,.func (.func 40) #[] #[],.func (.func 41) #[] #[]]),(3,.agg #[.int .i64 2,.func (.func 43) #[] #[],.func (.func 44) #[] #[]]),(4,.agg #[.int .i64 2,.func (.func 43) #[] #[],.func (.func 45) #[] #[]]),(5,.agg #[.int .i64 2,.func (.func 43) #[] #[],.func (.func 46) #[] #[]]),(6,.agg #[.int .i64 2,.func (.func 43) #[] #[],.func (.func 47) #[] #[]]),(7,.agg #[.int .i64 2,.func (.func 43) #[] #[],.func (.func 48) #[] #[]]),(8,.agg #[.int .i64 2,.func (.func 49) #[] #[],.func (.func 50) #[] #[]]),(9,.agg #[.int .i64 2,.func (.func 49) #[] #[],.func (.func 51) #[] #[]])]
set_option maxHeartbeats 800000 in
theorem lf (w : World) : Calls Try.prog 33 #[] w (fun e w' => ∃ arr : Array MapEntry,e = .returned (.map (some w.heap.size))∧w' = w.alloc (.map arr 8)∧arr.toList.map (fun e => (e.key,e.val)) = bT.map (fun e => (Value.int .i64 e.1,e.2))) := by
  go_enter Try.func33,Try.ntmps33
  go_wp2_with (first | (rw [ig]) | (rw [jo Try.underlying70 Try.underlying3 (by rfl)]))
  go_ret
  exact ⟨_,rfl,rfl,rfl⟩
abbrev qj : Ct := ⟨33,[],false,.v (.mp bT)⟩
theorem fa : CC qj := ai.of_map lf
def ca : List (Int × Value) := [(1,.agg #[.int .i64 0,.func (.func 52) #[] #[],.func (.func 53) #[] #[]]),(10,.agg #[.int .i64 3,.func (.func 54) #[] #[],.func (.func 55) #[] #[]]),(11,.agg #[.int .i64 2,.func (.func 56) #[] #[],.func (.func 57) #[] #[]]),(12,.agg #[.int .i64 1,.func (.func 58) #[] #[],.func (.func 59) #[] #[]]),(13,.agg #[.int .i64 1,.func (.func 60) #[] #[],.func (.func 61) #[] #[]])]
set_option maxHeartbeats 800000 in
theorem lg (w : World) : Calls Try.prog 34 #[] w (fun e w' => ∃ arr : Array MapEntry,e = .returned (.map (some w.heap.size))∧w' = w.alloc (.map arr 5)∧arr.toList.map (fun e => (e.key,e.val)) = ca.map (fun e => (Value.int .i64 e.1,e.2))) := by
  go_enter Try.func34,Try.ntmps34
  go_wp2_with (first | (rw [ig]) | (rw [jo Try.underlying70 Try.underlying3 (by rfl)]))
  go_ret
  exact ⟨_,rfl,rfl,rfl⟩
abbrev rq : Ct := ⟨34,[],false,.v (.mp ca)⟩
theorem gX : CC rq := ai.of_map lg
def bD (op : Int) : Nat :=
  if op = 1 then 52 else
  if op = 2 then 40 else
  if op = 3 then 43 else
  if op = 4 then 43 else
  if op = 5 then 43 else
  if op = 6 then 43 else
  if op = 7 then 43 else
  if op = 8 then 49 else
  if op = 9 then 49 else
  if op = 10 then 54 else
  if op = 11 then 56 else
  if op = 12 then 58 else
  if op = 13 then 60 else 0
def bE (op : Int) : Nat :=
  if op = 1 then 53 else
  if op = 2 then 41 else
  if op = 3 then 44 else
  if op = 4 then 45 else
  if op = 5 then 46 else
  if op = 6 then 47 else
  if op = 7 then 48 else
  if op = 8 then 50 else
  if op = 9 then 51 else
  if op = 10 then 55 else
  if op = 11 then 57 else
  if op = 12 then 59 else
  if op = 13 then 61 else 0
abbrev cW (op : Int) (ws xs : List Int) (k w : Int) : Ct := ⟨bD op,[(.agg [(LI ws),(LI xs),(i6 k),(i6 w)])],false,i6 (aG op ws k w)⟩
abbrev cV (op : Int) (ws xs : List Int) (k w : Int) : Ct := ⟨bE op,[(.agg [(LI ws),(LI xs),(i6 k),(i6 w)])],false,i6 (ft op ws xs k w)⟩
theorem js {op : Int} {ws : List Int} (h : l3 op ws = true) : op = 1 ∨ op = 2 ∨ op = 3 ∨ op = 4 ∨ op = 5 ∨ op = 6 ∨ op = 7 ∨ op = 8 ∨ op = 9 ∨ op = 10 ∨ op = 11 ∨ op = 12 ∨ op = 13 := by
  have h1 := (ld h).1
  by_cases hr : op < 1 ∨ 13 < op
  · have : am op = -1 := by unfold am; rw [if_neg (by omega),if_neg (by omega),if_neg (by omega),if_neg (by omega)]
    omega
  · omega
theorem qN (op : Int) (ws xs : List Int) (k w : Int) (h : l3 op ws = true) : GC (cW op ws xs k w) := by
  obtain ⟨h1,hf⟩ := ld h
  rcases js h with rfl | rfl | rfl | rfl | rfl | rfl | rfl | rfl | rfl | rfl | rfl | rfl | rfl
  · (have hl : (ws.length : Int) = 0 := h1); exact ⟨by kernel_rfl,ou ws xs k w (by omega) hf⟩
  · (have hl : (ws.length : Int) = 1 := h1); exact ⟨by kernel_rfl,pv ws xs k w (by omega) hf⟩
  · (have hl : (ws.length : Int) = 2 := h1); exact ⟨by kernel_rfl,dR ws xs k w (by omega) hf⟩
  · (have hl : (ws.length : Int) = 2 := h1); exact ⟨by kernel_rfl,dR ws xs k w (by omega) hf⟩
  · (have hl : (ws.length : Int) = 2 := h1); exact ⟨by kernel_rfl,dR ws xs k w (by omega) hf⟩
  · (have hl : (ws.length : Int) = 2 := h1); exact ⟨by kernel_rfl,dR ws xs k w (by omega) hf⟩
  · (have hl : (ws.length : Int) = 2 := h1); exact ⟨by kernel_rfl,dR ws xs k w (by omega) hf⟩
  · (have hl : (ws.length : Int) = 2 := h1); exact ⟨by kernel_rfl,pw ws xs k w (by omega) hf⟩
  · (have hl : (ws.length : Int) = 2 := h1); exact ⟨by kernel_rfl,pw ws xs k w (by omega) hf⟩
  · (have hl : (ws.length : Int) = 3 := h1); exact ⟨by kernel_rfl,qg ws xs k w (by omega) hf⟩
  · (have hl : (ws.length : Int) = 2 := h1); exact ⟨by kernel_rfl,qh ws xs k w (by omega) hf⟩
  · (have hl : (ws.length : Int) = 1 := h1); exact ⟨by kernel_rfl,ow ws xs k w (by omega) hf⟩
  · (have hl : (ws.length : Int) = 1 := h1); exact ⟨by kernel_rfl,qi ws xs k w (by omega) hf⟩
theorem sd (op : Int) (ws xs : List Int) (k w : Int) (h : jp op ws k w = true) (hx : xs.length = ws.length) (hin : oI ws xs = true) : GC (cV op ws xs k w) := by
  obtain ⟨h1,hf,h3⟩ := jq h
  have hb : l3 op ws = true := by unfold l3; rw [decide_eq_true h1,hf]; rfl
  rcases js hb with rfl | rfl | rfl | rfl | rfl | rfl | rfl | rfl | rfl | rfl | rfl | rfl | rfl
  · (have hl : (ws.length : Int) = 0 := h1); exact ⟨by kernel_rfl,px ws xs k w ⟨by omega,hf,hx,hin⟩⟩
  · (have hl : (ws.length : Int) = 1 := h1); exact ⟨by kernel_rfl,rh ws xs k w ⟨by omega,hf,hx,hin⟩⟩
  · (have hl : (ws.length : Int) = 2 := h1); exact ⟨by kernel_rfl,ri ws xs k w ⟨by omega,hf,hx,hin⟩⟩
  · (have hl : (ws.length : Int) = 2 := h1); exact ⟨by kernel_rfl,r9 ws xs k w ⟨by omega,hf,hx,hin⟩⟩
  · (have hl : (ws.length : Int) = 2 := h1); exact ⟨by kernel_rfl,rj ws xs k w ⟨by omega,hf,hx,hin⟩⟩
  · (have hl : (ws.length : Int) = 2 := h1); exact ⟨by kernel_rfl,rk ws xs k w ⟨by omega,hf,hx,hin⟩⟩
  · (have hl : (ws.length : Int) = 2 := h1); exact ⟨by kernel_rfl,rl ws xs k w ⟨by omega,hf,hx,hin⟩⟩
  · (have hl : (ws.length : Int) = 2 := h1); exact ⟨by kernel_rfl,sa ws xs k w ⟨by omega,hf,hx,hin⟩⟩
  · (have hl : (ws.length : Int) = 2 := h1); exact ⟨by kernel_rfl,sc ws xs k w ⟨by omega,hf,hx,hin⟩⟩
  · (have hl : (ws.length : Int) = 3 := h1); exact ⟨by kernel_rfl,rn ws xs k w ⟨by omega,hf,hx,hin⟩ (nC h)⟩
  · (have hl : (ws.length : Int) = 2 := h1); exact ⟨by kernel_rfl,rp ws xs k w ⟨by omega,hf,hx,hin⟩⟩
  · (have hl : (ws.length : Int) = 1 := h1); exact ⟨by kernel_rfl,py ws xs k w ⟨by omega,hf,hx,hin⟩ (nG h)⟩
  · (have hl : (ws.length : Int) = 1 := h1); exact ⟨by kernel_rfl,rm ws xs k w ⟨by omega,hf,hx,hin⟩⟩
theorem jt {op : Int} (h : op = 2 ∨ op = 3 ∨ op = 4 ∨ op = 5 ∨ op = 6 ∨ op = 7 ∨ op = 8 ∨ op = 9) : ∃ (j : Nat) (e : Int × Value),bT[j]? = some e∧op = e.1∧(∀ e' ∈ bT.take j,op ≠ e'.1)∧kK (D.ofVal e.2) (.agg [(ay op),(.fn (.func (bD op)) [] []),(.fn (.func (bE op)) [] [])]) := by
  rcases h with rfl | rfl | rfl | rfl | rfl | rfl | rfl | rfl
  · exact ⟨0,_,rfl,rfl,by decide,⟨rfl,rfl,rfl,oK⟩⟩
  · exact ⟨1,_,rfl,rfl,by decide,⟨rfl,rfl,rfl,oK⟩⟩
  · exact ⟨2,_,rfl,rfl,by decide,⟨rfl,rfl,rfl,oK⟩⟩
  · exact ⟨3,_,rfl,rfl,by decide,⟨rfl,rfl,rfl,oK⟩⟩
  · exact ⟨4,_,rfl,rfl,by decide,⟨rfl,rfl,rfl,oK⟩⟩
  · exact ⟨5,_,rfl,rfl,by decide,⟨rfl,rfl,rfl,oK⟩⟩
  · exact ⟨6,_,rfl,rfl,by decide,⟨rfl,rfl,rfl,oK⟩⟩
  · exact ⟨7,_,rfl,rfl,by decide,⟨rfl,rfl,rfl,oK⟩⟩
theorem ju {op : Int} (h : ¬(op = 2 ∨ op = 3 ∨ op = 4 ∨ op = 5 ∨ op = 6 ∨ op = 7 ∨ op = 8 ∨ op = 9)) : ∀ e' ∈ bT,op ≠ e'.1 := by
  intro e' he'
  simp only [bT,List.mem_cons,List.not_mem_nil,or_false] at he'
  rcases he' with rfl | rfl | rfl | rfl | rfl | rfl | rfl | rfl <;> simp only [ne_eq] <;> omega
theorem jv {op : Int} (h : op = 1 ∨ op = 10 ∨ op = 11 ∨ op = 12 ∨ op = 13) : ∃ (j : Nat) (e : Int × Value),ca[j]? = some e∧op = e.1∧(∀ e' ∈ ca.take j,op ≠ e'.1)∧kK (D.ofVal e.2) (.agg [(ay op),(.fn (.func (bD op)) [] []),(.fn (.func (bE op)) [] [])]) := by
  rcases h with rfl | rfl | rfl | rfl | rfl
  · exact ⟨0,_,rfl,rfl,by decide,⟨rfl,rfl,rfl,oK⟩⟩
  · exact ⟨1,_,rfl,rfl,by decide,⟨rfl,rfl,rfl,oK⟩⟩
  · exact ⟨2,_,rfl,rfl,by decide,⟨rfl,rfl,rfl,oK⟩⟩
  · exact ⟨3,_,rfl,rfl,by decide,⟨rfl,rfl,rfl,oK⟩⟩
  · exact ⟨4,_,rfl,rfl,by decide,⟨rfl,rfl,rfl,oK⟩⟩
theorem mV {op : Int} (h : ¬(op = 1 ∨ op = 10 ∨ op = 11 ∨ op = 12 ∨ op = 13)) : ∀ e' ∈ ca,op ≠ e'.1 := by
  intro e' he'
  simp only [ca,List.mem_cons,List.not_mem_nil,or_false] at he'
  rcases he' with rfl | rfl | rfl | rfl | rfl <;> simp only [ne_eq] <;> omega
abbrev oA (op : Int) (ws xs : List Int) (k w : Int) : Ct := ⟨27,[(i6 op),(.agg [(LI ws),(LI xs),(i6 k),(i6 w)])],true,(.tup [(.agg [(ay op),(.fn (.func (bD op)) [] []),(.fn (.func (bE op)) [] [])]),(i6 (aG op ws k w)),(dB (ao (aG op ws k w)))])⟩
def eN (op : Int) (ws : List Int) (xs : List Int) (k : Int) (w : Int) : St := ⟨[(4,a4),(7,a7),(9,(i6 (aG op ws k w)))],[(.var 61 [(LI ws),(LI xs),(i6 k),(i6 w)]),bI,(.var 57 [(ay op),(.fn (.func (bD op)) [] []),(.fn (.func (bE op)) [] [])])]⟩
def ii (op : Int) (ws : List Int) (xs : List Int) (k : Int) (w : Int) : St := ⟨[(4,a4),(7,a7),(9,(i6 (aG op ws k w))),(44,(.agg [(ay op),(.fn (.func (bD op)) [] []),(.fn (.func (bE op)) [] [])]))],[(.var 61 [(LI ws),(LI xs),(i6 k),(i6 w)]),bI,(.var 57 [(ay op),(.fn (.func (bD op)) [] []),(.fn (.func (bE op)) [] [])])]⟩
def ij (op : Int) (ws : List Int) (xs : List Int) (k : Int) (w : Int) : St := ⟨[(4,a4),(7,a7),(9,(i6 (aG op ws k w))),(45,(i6 (aG op ws k w)))],[(.var 61 [(LI ws),(LI xs),(i6 k),(i6 w)]),bI,(.var 57 [(ay op),(.fn (.func (bD op)) [] []),(.fn (.func (bE op)) [] [])])]⟩
def ik (op : Int) (ws : List Int) (xs : List Int) (k : Int) (w : Int) : St := ⟨[(4,a4),(7,a7),(9,(i6 (aG op ws k w))),(46,(i6 (aG op ws k w)))],[(.var 61 [(LI ws),(LI xs),(i6 k),(i6 w)]),bI,(.var 57 [(ay op),(.fn (.func (bD op)) [] []),(.fn (.func (bE op)) [] [])])]⟩
def eO (op : Int) (ws : List Int) (xs : List Int) (k : Int) (w : Int) : St := ⟨[(4,a4),(7,a7),(9,(i6 (aG op ws k w))),(44,(.agg [(ay op),(.fn (.func (bD op)) [] []),(.fn (.func (bE op)) [] [])])),(45,(i6 (aG op ws k w)))],[(.var 61 [(LI ws),(LI xs),(i6 k),(i6 w)]),bI,(.var 57 [(ay op),(.fn (.func (bD op)) [] []),(.fn (.func (bE op)) [] [])])]⟩
def eP (op : Int) (ws : List Int) (xs : List Int) (k : Int) (w : Int) : St := ⟨[(4,a4),(7,a7),(9,(i6 (aG op ws k w))),(44,(.agg [(ay op),(.fn (.func (bD op)) [] []),(.fn (.func (bE op)) [] [])])),(46,(i6 (aG op ws k w)))],[(.var 61 [(LI ws),(LI xs),(i6 k),(i6 w)]),bI,(.var 57 [(ay op),(.fn (.func (bD op)) [] []),(.fn (.func (bE op)) [] [])])]⟩
def eR (op : Int) (ws : List Int) (xs : List Int) (k : Int) (w : Int) : St := ⟨[(4,a4),(7,a7),(9,(i6 (aG op ws k w))),(45,(i6 (aG op ws k w))),(46,(i6 (aG op ws k w)))],[(.var 61 [(LI ws),(LI xs),(i6 k),(i6 w)]),bI,(.var 57 [(ay op),(.fn (.func (bD op)) [] []),(.fn (.func (bE op)) [] [])])]⟩
def il (op : Int) (ws : List Int) (xs : List Int) (k : Int) (w : Int) : St := ⟨[(4,a4),(7,a7),(9,(i6 (aG op ws k w))),(46,(i6 (aG op ws k w))),(47,(dB (ao (aG op ws k w))))],[(.var 61 [(LI ws),(LI xs),(i6 k),(i6 w)]),bI,(.var 57 [(ay op),(.fn (.func (bD op)) [] []),(.fn (.func (bE op)) [] [])])]⟩
def dp (op : Int) (ws : List Int) (xs : List Int) (k : Int) (w : Int) : St := ⟨[(4,a4),(7,a7),(9,(i6 (aG op ws k w))),(44,(.agg [(ay op),(.fn (.func (bD op)) [] []),(.fn (.func (bE op)) [] [])])),(45,(i6 (aG op ws k w))),(46,(i6 (aG op ws k w)))],[(.var 61 [(LI ws),(LI xs),(i6 k),(i6 w)]),bI,(.var 57 [(ay op),(.fn (.func (bD op)) [] []),(.fn (.func (bE op)) [] [])])]⟩
def eS (op : Int) (ws : List Int) (xs : List Int) (k : Int) (w : Int) : St := ⟨[(4,a4),(7,a7),(9,(i6 (aG op ws k w))),(44,(.agg [(ay op),(.fn (.func (bD op)) [] []),(.fn (.func (bE op)) [] [])])),(46,(i6 (aG op ws k w))),(47,(dB (ao (aG op ws k w))))],[(.var 61 [(LI ws),(LI xs),(i6 k),(i6 w)]),bI,(.var 57 [(ay op),(.fn (.func (bD op)) [] []),(.fn (.func (bE op)) [] [])])]⟩
def d6 (op : Int) (ws : List Int) (xs : List Int) (k : Int) (w : Int) : St := ⟨[(4,a4),(7,a7),(9,(i6 (aG op ws k w))),(45,(i6 (aG op ws k w))),(46,(i6 (aG op ws k w))),(47,(dB (ao (aG op ws k w))))],[(.var 61 [(LI ws),(LI xs),(i6 k),(i6 w)]),bI,(.var 57 [(ay op),(.fn (.func (bD op)) [] []),(.fn (.func (bE op)) [] [])])]⟩
def cK (op : Int) (ws : List Int) (xs : List Int) (k : Int) (w : Int) : St := ⟨[(4,a4),(7,a7),(9,(i6 (aG op ws k w))),(44,(.agg [(ay op),(.fn (.func (bD op)) [] []),(.fn (.func (bE op)) [] [])])),(45,(i6 (aG op ws k w))),(46,(i6 (aG op ws k w))),(47,(dB (ao (aG op ws k w))))],[(.var 61 [(LI ws),(LI xs),(i6 k),(i6 w)]),bI,(.var 57 [(ay op),(.fn (.func (bD op)) [] []),(.fn (.func (bE op)) [] [])])]⟩
def gh (op : Int) (ws : List Int) (xs : List Int) (k : Int) (w : Int) : St := ⟨[(4,a4),(7,a7),(9,(i6 (aG op ws k w))),(44,(.agg [(ay op),(.fn (.func (bD op)) [] []),(.fn (.func (bE op)) [] [])])),(46,(i6 (aG op ws k w))),(47,(dB (ao (aG op ws k w))))],[(.var 61 [(LI ws),(LI xs),(i6 k),(i6 w)]),(.var 57 [(ay op),(.fn (.func (bD op)) [] []),(.fn (.func (bE op)) [] [])]),(.var 57 [(ay op),(.fn (.func (bD op)) [] []),(.fn (.func (bE op)) [] [])])]⟩
def d7 (op : Int) (ws : List Int) (xs : List Int) (k : Int) (w : Int) : St := ⟨[(4,a4),(7,a7),(9,(i6 (aG op ws k w))),(44,(.agg [(ay op),(.fn (.func (bD op)) [] []),(.fn (.func (bE op)) [] [])])),(45,(i6 (aG op ws k w))),(46,(i6 (aG op ws k w))),(47,(dB (ao (aG op ws k w))))],[(.var 61 [(LI ws),(LI xs),(i6 k),(i6 w)]),(.var 57 [(ay op),(.fn (.func (bD op)) [] []),(.fn (.func (bE op)) [] [])]),(.var 57 [(ay op),(.fn (.func (bD op)) [] []),(.fn (.func (bE op)) [] [])])]⟩
def gi (op : Int) (ws : List Int) (xs : List Int) (k : Int) (w : Int) : St := ⟨[(4,a4),(5,(i6 (aG op ws k w))),(7,a7),(9,(i6 (aG op ws k w))),(44,(.agg [(ay op),(.fn (.func (bD op)) [] []),(.fn (.func (bE op)) [] [])])),(45,(i6 (aG op ws k w))),(46,(i6 (aG op ws k w))),(47,(dB (ao (aG op ws k w))))],[(.var 61 [(LI ws),(LI xs),(i6 k),(i6 w)]),(.var 57 [(ay op),(.fn (.func (bD op)) [] []),(.fn (.func (bE op)) [] [])]),(.var 57 [(ay op),(.fn (.func (bD op)) [] []),(.fn (.func (bE op)) [] [])])]⟩
def gj (op : Int) (ws : List Int) (xs : List Int) (k : Int) (w : Int) : St := ⟨[(4,a4),(5,(i6 (aG op ws k w))),(6,(dB (ao (aG op ws k w))))],[(.var 61 [(LI ws),(LI xs),(i6 k),(i6 w)]),(.var 57 [(ay op),(.fn (.func (bD op)) [] []),(.fn (.func (bE op)) [] [])]),(.var 57 [(ay op),(.fn (.func (bD op)) [] []),(.fn (.func (bE op)) [] [])])]⟩
def d8 (op : Int) (ws : List Int) (xs : List Int) (k : Int) (w : Int) : St := ⟨[(4,a4),(7,a7),(9,(i6 (aG op ws k w)))],[(.var 61 [(LI ws),(LI xs),(i6 k),(i6 w)]),bI,(.var 57 [(ay op),(.fn (.func (bD op)) [] []),(.fn (.func (bE op)) [] [])])]⟩
def gk (op : Int) (ws : List Int) (xs : List Int) (k : Int) (w : Int) : St := ⟨[(4,a4),(7,a7),(9,(i6 (aG op ws k w))),(44,(.agg [(ay op),(.fn (.func (bD op)) [] []),(.fn (.func (bE op)) [] [])]))],[(.var 61 [(LI ws),(LI xs),(i6 k),(i6 w)]),bI,(.var 57 [(ay op),(.fn (.func (bD op)) [] []),(.fn (.func (bE op)) [] [])])]⟩
def gl (op : Int) (ws : List Int) (xs : List Int) (k : Int) (w : Int) : St := ⟨[(4,a4),(7,a7),(9,(i6 (aG op ws k w))),(45,(i6 (aG op ws k w)))],[(.var 61 [(LI ws),(LI xs),(i6 k),(i6 w)]),bI,(.var 57 [(ay op),(.fn (.func (bD op)) [] []),(.fn (.func (bE op)) [] [])])]⟩
def gm (op : Int) (ws : List Int) (xs : List Int) (k : Int) (w : Int) : St := ⟨[(4,a4),(7,a7),(9,(i6 (aG op ws k w))),(46,(i6 (aG op ws k w)))],[(.var 61 [(LI ws),(LI xs),(i6 k),(i6 w)]),bI,(.var 57 [(ay op),(.fn (.func (bD op)) [] []),(.fn (.func (bE op)) [] [])])]⟩
def d9 (op : Int) (ws : List Int) (xs : List Int) (k : Int) (w : Int) : St := ⟨[(4,a4),(7,a7),(9,(i6 (aG op ws k w))),(44,(.agg [(ay op),(.fn (.func (bD op)) [] []),(.fn (.func (bE op)) [] [])])),(45,(i6 (aG op ws k w)))],[(.var 61 [(LI ws),(LI xs),(i6 k),(i6 w)]),bI,(.var 57 [(ay op),(.fn (.func (bD op)) [] []),(.fn (.func (bE op)) [] [])])]⟩
def eb (op : Int) (ws : List Int) (xs : List Int) (k : Int) (w : Int) : St := ⟨[(4,a4),(7,a7),(9,(i6 (aG op ws k w))),(44,(.agg [(ay op),(.fn (.func (bD op)) [] []),(.fn (.func (bE op)) [] [])])),(46,(i6 (aG op ws k w)))],[(.var 61 [(LI ws),(LI xs),(i6 k),(i6 w)]),bI,(.var 57 [(ay op),(.fn (.func (bD op)) [] []),(.fn (.func (bE op)) [] [])])]⟩
def ec (op : Int) (ws : List Int) (xs : List Int) (k : Int) (w : Int) : St := ⟨[(4,a4),(7,a7),(9,(i6 (aG op ws k w))),(45,(i6 (aG op ws k w))),(46,(i6 (aG op ws k w)))],[(.var 61 [(LI ws),(LI xs),(i6 k),(i6 w)]),bI,(.var 57 [(ay op),(.fn (.func (bD op)) [] []),(.fn (.func (bE op)) [] [])])]⟩
def gn (op : Int) (ws : List Int) (xs : List Int) (k : Int) (w : Int) : St := ⟨[(4,a4),(7,a7),(9,(i6 (aG op ws k w))),(46,(i6 (aG op ws k w))),(47,(dB (ao (aG op ws k w))))],[(.var 61 [(LI ws),(LI xs),(i6 k),(i6 w)]),bI,(.var 57 [(ay op),(.fn (.func (bD op)) [] []),(.fn (.func (bE op)) [] [])])]⟩
def cL (op : Int) (ws : List Int) (xs : List Int) (k : Int) (w : Int) : St := ⟨[(4,a4),(7,a7),(9,(i6 (aG op ws k w))),(44,(.agg [(ay op),(.fn (.func (bD op)) [] []),(.fn (.func (bE op)) [] [])])),(45,(i6 (aG op ws k w))),(46,(i6 (aG op ws k w)))],[(.var 61 [(LI ws),(LI xs),(i6 k),(i6 w)]),bI,(.var 57 [(ay op),(.fn (.func (bD op)) [] []),(.fn (.func (bE op)) [] [])])]⟩
def ed (op : Int) (ws : List Int) (xs : List Int) (k : Int) (w : Int) : St := ⟨[(4,a4),(7,a7),(9,(i6 (aG op ws k w))),(44,(.agg [(ay op),(.fn (.func (bD op)) [] []),(.fn (.func (bE op)) [] [])])),(46,(i6 (aG op ws k w))),(47,(dB (ao (aG op ws k w))))],[(.var 61 [(LI ws),(LI xs),(i6 k),(i6 w)]),bI,(.var 57 [(ay op),(.fn (.func (bD op)) [] []),(.fn (.func (bE op)) [] [])])]⟩
def dA (op : Int) (ws : List Int) (xs : List Int) (k : Int) (w : Int) : St := ⟨[(4,a4),(7,a7),(9,(i6 (aG op ws k w))),(45,(i6 (aG op ws k w))),(46,(i6 (aG op ws k w))),(47,(dB (ao (aG op ws k w))))],[(.var 61 [(LI ws),(LI xs),(i6 k),(i6 w)]),bI,(.var 57 [(ay op),(.fn (.func (bD op)) [] []),(.fn (.func (bE op)) [] [])])]⟩
def ct (op : Int) (ws : List Int) (xs : List Int) (k : Int) (w : Int) : St := ⟨[(4,a4),(7,a7),(9,(i6 (aG op ws k w))),(44,(.agg [(ay op),(.fn (.func (bD op)) [] []),(.fn (.func (bE op)) [] [])])),(45,(i6 (aG op ws k w))),(46,(i6 (aG op ws k w))),(47,(dB (ao (aG op ws k w))))],[(.var 61 [(LI ws),(LI xs),(i6 k),(i6 w)]),bI,(.var 57 [(ay op),(.fn (.func (bD op)) [] []),(.fn (.func (bE op)) [] [])])]⟩
def fu (op : Int) (ws : List Int) (xs : List Int) (k : Int) (w : Int) : St := ⟨[(4,a4),(7,a7),(9,(i6 (aG op ws k w))),(44,(.agg [(ay op),(.fn (.func (bD op)) [] []),(.fn (.func (bE op)) [] [])])),(46,(i6 (aG op ws k w))),(47,(dB (ao (aG op ws k w))))],[(.var 61 [(LI ws),(LI xs),(i6 k),(i6 w)]),(.var 57 [(ay op),(.fn (.func (bD op)) [] []),(.fn (.func (bE op)) [] [])]),(.var 57 [(ay op),(.fn (.func (bD op)) [] []),(.fn (.func (bE op)) [] [])])]⟩
def dC (op : Int) (ws : List Int) (xs : List Int) (k : Int) (w : Int) : St := ⟨[(4,a4),(7,a7),(9,(i6 (aG op ws k w))),(44,(.agg [(ay op),(.fn (.func (bD op)) [] []),(.fn (.func (bE op)) [] [])])),(45,(i6 (aG op ws k w))),(46,(i6 (aG op ws k w))),(47,(dB (ao (aG op ws k w))))],[(.var 61 [(LI ws),(LI xs),(i6 k),(i6 w)]),(.var 57 [(ay op),(.fn (.func (bD op)) [] []),(.fn (.func (bE op)) [] [])]),(.var 57 [(ay op),(.fn (.func (bD op)) [] []),(.fn (.func (bE op)) [] [])])]⟩
def fv (op : Int) (ws : List Int) (xs : List Int) (k : Int) (w : Int) : St := ⟨[(4,a4),(5,(i6 (aG op ws k w))),(7,a7),(9,(i6 (aG op ws k w))),(44,(.agg [(ay op),(.fn (.func (bD op)) [] []),(.fn (.func (bE op)) [] [])])),(45,(i6 (aG op ws k w))),(46,(i6 (aG op ws k w))),(47,(dB (ao (aG op ws k w))))],[(.var 61 [(LI ws),(LI xs),(i6 k),(i6 w)]),(.var 57 [(ay op),(.fn (.func (bD op)) [] []),(.fn (.func (bE op)) [] [])]),(.var 57 [(ay op),(.fn (.func (bD op)) [] []),(.fn (.func (bE op)) [] [])])]⟩
def fw (op : Int) (ws : List Int) (xs : List Int) (k : Int) (w : Int) : St := ⟨[(4,a4),(5,(i6 (aG op ws k w))),(6,(dB (ao (aG op ws k w))))],[(.var 61 [(LI ws),(LI xs),(i6 k),(i6 w)]),(.var 57 [(ay op),(.fn (.func (bD op)) [] []),(.fn (.func (bE op)) [] [])]),(.var 57 [(ay op),(.fn (.func (bD op)) [] []),(.fn (.func (bE op)) [] [])])]⟩
theorem ku (op : Int) (ws xs : List Int) (k w : Int) (hw : ws.length ≤ 9223372036854775807) (h : l3 op ws = true) : CC (oA op ws xs k w) := by
 obtain ⟨h1,h2⟩ := ld h
 have hop := js h
 refine ai.vc (V := TT 4 (CS (op = 2 ∨ op = 3 ∨ op = 4 ∨ op = 5 ∨ op = 6 ∨ op = 7 ∨ op = 8 ∨ op = 9) (CC qj∧TT 1 ((∃ (j : Nat) (e : Int × Value),bT[j]? = some e∧op = e.1∧(∀ e' ∈ bT.take j,op ≠ e'.1)∧kK (D.ofVal e.2) (.agg [(ay op),(.fn (.func (bD op)) [] []),(.fn (.func (bE op)) [] [])]))∧TT 18 ((True∧(!decide ((ws.length : Int) = (am op))) = false)∧TT 2 (CC (qf ws)∧TT 1 ((!(ws.all ao)) = false∧TT 3 (GC (cW op ws xs k w)∧TT 1 ((eN op ws xs k w) = (eN op ws xs k w)∧(((sE (ii op ws xs k w) (True))∧(sE (ij op ws xs k w) (True))∧(sE (ik op ws xs k w) (True))∧True)∧((sE (eO op ws xs k w) (True))∧(sE (eP op ws xs k w) (True))∧True)∧((sE (eO op ws xs k w) (True))∧(sE (eR op ws xs k w) (True))∧True)∧((sE (eP op ws xs k w) (True))∧(sE (eR op ws xs k w) (True))∧(sE (il op ws xs k w) (CC (it (aG op ws k w))))∧True)∧((sE (dp op ws xs k w) (True))∧True)∧((sE (dp op ws xs k w) (True))∧(sE (eS op ws xs k w) (CC (it (aG op ws k w))))∧True)∧((sE (dp op ws xs k w) (True))∧(sE (d6 op ws xs k w) (CC (it (aG op ws k w))))∧True)∧((sE (eS op ws xs k w) (True))∧(sE (d6 op ws xs k w) (True))∧True)∧((sE (cK op ws xs k w) (CC (it (aG op ws k w))))∧True)∧((sE (cK op ws xs k w) (True))∧(sE (gh op ws xs k w) (True))∧True)∧((sE (cK op ws xs k w) (True))∧True)∧((sE (d7 op ws xs k w) (True))∧True)∧((sE (d7 op ws xs k w) (True))∧True)∧((sE (gi op ws xs k w) (True))∧True)∧((sE (gj op ws xs k w) (True))∧True)∧True∧True)∧TT 3 (((am op) = (am op)∧((.fn (.func (bD op)) [] []) : D) = (.fn (.func (bD op)) [] [])∧((.fn (.func (bE op)) [] []) : D) = (.fn (.func (bE op)) [] [])∧True)∧(aG op ws k w) = (aG op ws k w)∧(ao (aG op ws k w)) = (ao (aG op ws k w))∧True)))))))) (CC qj∧TT 1 ((∀ e' ∈ bT,op ≠ e'.1)∧TT 8 (CC rq∧TT 1 ((∃ (j : Nat) (e : Int × Value),ca[j]? = some e∧op = e.1∧(∀ e' ∈ ca.take j,op ≠ e'.1)∧kK (D.ofVal e.2) (.agg [(ay op),(.fn (.func (bD op)) [] []),(.fn (.func (bE op)) [] [])]))∧TT 15 ((True∧(!decide ((ws.length : Int) = (am op))) = false)∧TT 2 (CC (qf ws)∧TT 1 ((!(ws.all ao)) = false∧TT 3 (GC (cW op ws xs k w)∧TT 1 ((d8 op ws xs k w) = (d8 op ws xs k w)∧(((sE (gk op ws xs k w) (True))∧(sE (gl op ws xs k w) (True))∧(sE (gm op ws xs k w) (True))∧True)∧((sE (d9 op ws xs k w) (True))∧(sE (eb op ws xs k w) (True))∧True)∧((sE (d9 op ws xs k w) (True))∧(sE (ec op ws xs k w) (True))∧True)∧((sE (eb op ws xs k w) (True))∧(sE (ec op ws xs k w) (True))∧(sE (gn op ws xs k w) (CC (it (aG op ws k w))))∧True)∧((sE (cL op ws xs k w) (True))∧True)∧((sE (cL op ws xs k w) (True))∧(sE (ed op ws xs k w) (CC (it (aG op ws k w))))∧True)∧((sE (cL op ws xs k w) (True))∧(sE (dA op ws xs k w) (CC (it (aG op ws k w))))∧True)∧((sE (ed op ws xs k w) (True))∧(sE (dA op ws xs k w) (True))∧True)∧((sE (ct op ws xs k w) (CC (it (aG op ws k w))))∧True)∧((sE (ct op ws xs k w) (True))∧(sE (fu op ws xs k w) (True))∧True)∧((sE (ct op ws xs k w) (True))∧True)∧((sE (dC op ws xs k w) (True))∧True)∧((sE (dC op ws xs k w) (True))∧True)∧((sE (fv op ws xs k w) (True))∧True)∧((sE (fw op ws xs k w) (True))∧True)∧True∧True)∧TT 3 (((am op) = (am op)∧((.fn (.func (bD op)) [] []) : D) = (.fn (.func (bD op)) [] [])∧((.fn (.func (bE op)) [] []) : D) = (.fn (.func (bE op)) [] [])∧True)∧(aG op ws k w) = (aG op ws k w)∧(ao (aG op ws k w)) = (ao (aG op ws k w))∧True)))))))))))) (.s 1 (op = 2 ∨ op = 3 ∨ op = 4 ∨ op = 5 ∨ op = 6 ∨ op = 7 ∨ op = 8 ∨ op = 9) (.w 1 [(0,qj.O),(2,.ent (.agg [(ay op),(.fn (.func (bD op)) [] []),(.fn (.func (bE op)) [] [])]))] <| .w 4 [(10,.val (dB false)),(13,(qf ws).O)] <| .u 38 (.w 6 [(3,.callg none false (i6 (aG op ws k w)))] <| .y 7 [(3,(it (aG op ws k w)).O)] [((bm 7 0),(eN op ws xs k w)),((bm 7 1),(ii op ws xs k w)),((bm 7 2),(ij op ws xs k w)),((bm 7 4),(ik op ws xs k w)),((bm 7 3),(eO op ws xs k w)),((bm 7 5),(eP op ws xs k w)),((bm 7 6),(eR op ws xs k w)),((bm 7 12),(il op ws xs k w)),((bm 7 7),(dp op ws xs k w)),((bm 7 13),(eS op ws xs k w)),((bm 7 14),(d6 op ws xs k w)),((bm 7 15),(cK op ws xs k w)),((bm 7 29),(gh op ws xs k w)),((bm 7 31),(d7 op ws xs k w)),((bm 7 63),(gi op ws xs k w)),((bm 7 127),(gj op ws xs k w))] <| .e)) (.w 1 [(0,qj.O),(2,.idx none)] <| .w 3 [(0,rq.O),(2,.ent (.agg [(ay op),(.fn (.func (bD op)) [] []),(.fn (.func (bE op)) [] [])]))] <| .w 4 [(10,.val (dB false)),(13,(qf ws).O)] <| .u 38 (.w 6 [(3,.callg none false (i6 (aG op ws k w)))] <| .y 7 [(3,(it (aG op ws k w)).O)] [((bm 7 0),(d8 op ws xs k w)),((bm 7 1),(gk op ws xs k w)),((bm 7 2),(gl op ws xs k w)),((bm 7 4),(gm op ws xs k w)),((bm 7 3),(d9 op ws xs k w)),((bm 7 5),(eb op ws xs k w)),((bm 7 6),(ec op ws xs k w)),((bm 7 12),(gn op ws xs k w)),((bm 7 7),(cL op ws xs k w)),((bm 7 13),(ed op ws xs k w)),((bm 7 14),(dA op ws xs k w)),((bm 7 15),(ct op ws xs k w)),((bm 7 29),(fu op ws xs k w)),((bm 7 31),(dC op ws xs k w)),((bm 7 63),(fv op ws xs k w)),((bm 7 127),(fw op ws xs k w))] <| .e))) Try.func27 rfl rfl rfl (by kernel_rfl) ?_
 refine tt ⟨fun hs0 => ?_,fun hs0 => ?_⟩
 · have hS := hs0
   exact ⟨fa,tt ⟨(jt hS),tt ⟨(nF h1),tt ⟨(dm ws hw),tt ⟨(sx h2),tt ⟨(qN op ws xs k w h),tt ⟨rfl,⟨⟨⟨⟨rfl,oK,oK⟩,⟨rfl,oK,oK⟩,⟨rfl,oK,oK⟩,oK⟩,⟨⟨rfl,oK,oK⟩,⟨rfl,oK,oK⟩,oK⟩,⟨⟨rfl,oK,oK⟩,⟨rfl,oK,oK⟩,oK⟩,⟨⟨rfl,oK,oK⟩,⟨rfl,oK,oK⟩,⟨rfl,(bv (aG op ws k w)),oK⟩,oK⟩,⟨⟨rfl,oK,oK⟩,oK⟩,⟨⟨rfl,oK,oK⟩,⟨rfl,(bv (aG op ws k w)),oK⟩,oK⟩,⟨⟨rfl,oK,oK⟩,⟨rfl,(bv (aG op ws k w)),oK⟩,oK⟩,⟨⟨rfl,oK,oK⟩,⟨rfl,oK,oK⟩,oK⟩,⟨⟨rfl,(bv (aG op ws k w)),oK⟩,oK⟩,⟨⟨rfl,oK,oK⟩,⟨rfl,oK,oK⟩,oK⟩,⟨⟨rfl,oK,oK⟩,oK⟩,⟨⟨rfl,oK,oK⟩,oK⟩,⟨⟨rfl,oK,oK⟩,oK⟩,⟨⟨rfl,oK,oK⟩,oK⟩,⟨⟨rfl,oK,oK⟩,oK⟩,oK,oK⟩,tt ⟨⟨rfl,rfl,rfl,oK⟩,rfl,rfl,oK⟩⟩⟩⟩⟩⟩⟩⟩⟩
 · have hS := hs0
   exact ⟨fa,tt ⟨(ju hS),tt ⟨gX,tt ⟨(jv (by omega)),tt ⟨(nF h1),tt ⟨(dm ws hw),tt ⟨(sx h2),tt ⟨(qN op ws xs k w h),tt ⟨rfl,⟨⟨⟨⟨rfl,oK,oK⟩,⟨rfl,oK,oK⟩,⟨rfl,oK,oK⟩,oK⟩,⟨⟨rfl,oK,oK⟩,⟨rfl,oK,oK⟩,oK⟩,⟨⟨rfl,oK,oK⟩,⟨rfl,oK,oK⟩,oK⟩,⟨⟨rfl,oK,oK⟩,⟨rfl,oK,oK⟩,⟨rfl,(bv (aG op ws k w)),oK⟩,oK⟩,⟨⟨rfl,oK,oK⟩,oK⟩,⟨⟨rfl,oK,oK⟩,⟨rfl,(bv (aG op ws k w)),oK⟩,oK⟩,⟨⟨rfl,oK,oK⟩,⟨rfl,(bv (aG op ws k w)),oK⟩,oK⟩,⟨⟨rfl,oK,oK⟩,⟨rfl,oK,oK⟩,oK⟩,⟨⟨rfl,(bv (aG op ws k w)),oK⟩,oK⟩,⟨⟨rfl,oK,oK⟩,⟨rfl,oK,oK⟩,oK⟩,⟨⟨rfl,oK,oK⟩,oK⟩,⟨⟨rfl,oK,oK⟩,oK⟩,⟨⟨rfl,oK,oK⟩,oK⟩,⟨⟨rfl,oK,oK⟩,oK⟩,⟨⟨rfl,oK,oK⟩,oK⟩,oK,oK⟩,tt ⟨⟨rfl,rfl,rfl,oK⟩,rfl,rfl,oK⟩⟩⟩⟩⟩⟩⟩⟩⟩⟩⟩
abbrev oB (op : Int) (ws xs : List Int) (k w : Int) : Ct := ⟨27,[(i6 op),(.agg [(LI ws),(LI xs),(i6 k),(i6 w)])],true,(.tup [(.agg [(i6 0),(.v .nilf),(.v .nilf)]),(i6 0),(dB false)])⟩
theorem kv (op : Int) (ws xs : List Int) (k w : Int) (hw : ws.length ≤ 9223372036854775807) (h : l3 op ws = false) : CC (oB op ws xs k w) := by
 refine ai.vc (V := TT 4 (CS (op = 2 ∨ op = 3 ∨ op = 4 ∨ op = 5 ∨ op = 6 ∨ op = 7 ∨ op = 8 ∨ op = 9) (CC qj∧TT 1 ((∃ (j : Nat) (e : Int × Value),bT[j]? = some e∧op = e.1∧(∀ e' ∈ bT.take j,op ≠ e'.1)∧kK (D.ofVal e.2) (.agg [(ay op),(.fn (.func (bD op)) [] []),(.fn (.func (bE op)) [] [])]))∧TT 8 (CS ((ws.length : Int) = (am op)) (TT 10 ((True∧(!decide ((ws.length : Int) = (am op))) = false)∧TT 2 (CC (qf ws)∧TT 1 ((!(ws.all ao)) = true∧TT 7 (((0 : Int) = 0∧True∧True∧True)∧(0 : Int) = 0∧false = false∧True))))) (TT 10 ((True∧(!decide ((ws.length : Int) = (am op))) = true)∧TT 11 (((0 : Int) = 0∧True∧True∧True)∧(0 : Int) = 0∧false = false∧True)))))) (CC qj∧TT 1 ((∀ e' ∈ bT,op ≠ e'.1)∧TT 8 (CS (op = 1 ∨ op = 10 ∨ op = 11 ∨ op = 12 ∨ op = 13) (CC rq∧TT 1 ((∃ (j : Nat) (e : Int × Value),ca[j]? = some e∧op = e.1∧(∀ e' ∈ ca.take j,op ≠ e'.1)∧kK (D.ofVal e.2) (.agg [(ay op),(.fn (.func (bD op)) [] []),(.fn (.func (bE op)) [] [])]))∧TT 5 (CS ((ws.length : Int) = (am op)) (TT 10 ((True∧(!decide ((ws.length : Int) = (am op))) = false)∧TT 2 (CC (qf ws)∧TT 1 ((!(ws.all ao)) = true∧TT 7 (((0 : Int) = 0∧True∧True∧True)∧(0 : Int) = 0∧false = false∧True))))) (TT 10 ((True∧(!decide ((ws.length : Int) = (am op))) = true)∧TT 11 (((0 : Int) = 0∧True∧True∧True)∧(0 : Int) = 0∧false = false∧True)))))) (CC rq∧TT 1 ((∀ e' ∈ ca,op ≠ e'.1)∧TT 27 (((0 : Int) = 0∧True∧True∧True)∧(0 : Int) = 0∧false = false∧True)))))))) (.s 1 (op = 2 ∨ op = 3 ∨ op = 4 ∨ op = 5 ∨ op = 6 ∨ op = 7 ∨ op = 8 ∨ op = 9) (.w 1 [(0,qj.O),(2,.ent (.agg [(ay op),(.fn (.func (bD op)) [] []),(.fn (.func (bE op)) [] [])]))] <| .s 4 ((ws.length : Int) = (am op)) (.w 4 [(10,.val (dB false)),(13,(qf ws).O)] <| .t 38 (.e)) (.w 4 [(10,.val (dB true))] <| .e)) (.w 1 [(0,qj.O),(2,.idx none)] <| .s 3 (op = 1 ∨ op = 10 ∨ op = 11 ∨ op = 12 ∨ op = 13) (.w 3 [(0,rq.O),(2,.ent (.agg [(ay op),(.fn (.func (bD op)) [] []),(.fn (.func (bE op)) [] [])]))] <| .s 4 ((ws.length : Int) = (am op)) (.w 4 [(10,.val (dB false)),(13,(qf ws).O)] <| .t 38 (.e)) (.w 4 [(10,.val (dB true))] <| .e)) (.w 3 [(0,rq.O),(2,.idx none)] <| .e))) Try.func27 rfl rfl rfl (by kernel_rfl) ?_
 refine tt ⟨fun hs0 => ?_,fun hs0 => ?_⟩
 · have hS := hs0
   refine ⟨fa,tt ⟨(jt hS),tt ⟨fun hs1 => ?_,fun hs1 => ?_⟩⟩⟩
   · exact tt ⟨(nF hs1),tt ⟨(dm ws hw),tt ⟨(sw (by rcases pp h with h5 | ⟨_,h5⟩; exact absurd (by assumption) h5; rw [h5]; simp)),tt ⟨⟨rfl,oK,oK,oK⟩,rfl,rfl,oK⟩⟩⟩⟩
   · exact tt ⟨(nT hs1),tt ⟨⟨rfl,oK,oK,oK⟩,rfl,rfl,oK⟩⟩
 · have hS := hs0
   refine ⟨fa,tt ⟨(ju hS),tt ⟨fun hs2 => ?_,fun hs2 => ?_⟩⟩⟩
   · have hO := hs2
     refine ⟨gX,tt ⟨(jv hO),tt ⟨fun hs3 => ?_,fun hs3 => ?_⟩⟩⟩
     · exact tt ⟨(nF hs3),tt ⟨(dm ws hw),tt ⟨(sw (by rcases pp h with h5 | ⟨_,h5⟩; exact absurd (by assumption) h5; rw [h5]; simp)),tt ⟨⟨rfl,oK,oK,oK⟩,rfl,rfl,oK⟩⟩⟩⟩
     · exact tt ⟨(nT hs3),tt ⟨⟨rfl,oK,oK,oK⟩,rfl,rfl,oK⟩⟩
   · have hO := hs2
     exact ⟨gX,tt ⟨(mV hO),tt ⟨⟨rfl,oK,oK,oK⟩,rfl,rfl,oK⟩⟩⟩
theorem fM {op : Int} {ws : List Int} {k w : Int} (h : l3 op ws = true) (h2 : ao (aG op ws k w) = true) : jp op ws k w = true := by rw [mQ,h,h2]; rfl
theorem aZ {op : Int} {ws : List Int} {k w : Int} (h : ¬l3 op ws = true) : jp op ws k w = false := by rw [mQ,Bool.eq_false_iff.2 h]; rfl
theorem a3 {op : Int} {ws : List Int} {k w : Int} (h2 : ¬ao (aG op ws k w) = true) : jp op ws k w = false := by rw [mQ,Bool.eq_false_iff.2 h2,Bool.and_false]
theorem eo {op : Int} {ws : List Int} {k w : Int} (h : jp op ws k w = false) : 0 = aA op ws k w∧1 = aJ op ws k w := by unfold aA aJ; rw [h]; exact ⟨rfl,rfl⟩
theorem gY {op : Int} {ws : List Int} {k w : Int} (h : jp op ws k w = true) : aG op ws k w = aA op ws k w∧0 = aJ op ws k w := by unfold aA aJ; rw [h]; exact ⟨rfl,rfl⟩
abbrev pz (op : Int) (ws : List Int) (k w : Int) : Ct := ⟨10,[(i6 op),(LI ws),(.agg [(i6 k),(i6 w)])],false,(.tup [(i6 (aA op ws k w)),(i6 (aJ op ws k w))])⟩
theorem db (op : Int) (ws : List Int) (k w : Int) (hw : ws.length ≤ 9223372036854775807) : CC (pz op ws k w) := by
 refine ai.vc (V := TT 3 (CS (l3 op ws = true) (TT 2 (((0 ≤ (0 : Int)∧0 < (2 : Int))∧True)∧TT 1 (((0 ≤ (1 : Int)∧1 < (2 : Int))∧True)∧TT 2 ((oU [] [(i6 op),(.agg [(LI ws),.nils,(i6 k),(i6 w)])] (oA op ws [] k w).as∧CC (oA op ws [] k w))∧TT 10 (CB (!(ao (aG op ws k w))) (TT 4 (((0 : Int) = (aA op ws k w)∧(1 : Int) = (aJ op ws k w)∧True)∧(True∧True∧True))) (TT 5 (((aG op ws k w) = (aA op ws k w)∧(0 : Int) = (aJ op ws k w)∧True)∧(True∧True∧True)))))))) (TT 2 (((0 ≤ (0 : Int)∧0 < (2 : Int))∧True)∧TT 1 (((0 ≤ (1 : Int)∧1 < (2 : Int))∧True)∧TT 2 ((oU [] [(i6 op),(.agg [(LI ws),.nils,(i6 k),(i6 w)])] (oB op ws [] k w).as∧CC (oB op ws [] k w))∧TT 14 (((0 : Int) = (aA op ws k w)∧(1 : Int) = (aJ op ws k w)∧True)∧(True∧True∧True)))))))) (.s 1 (l3 op ws = true) (.w 1 [(7,(oA op ws [] k w).O')] <| .b 24 (.e) (.e)) (.w 1 [(7,(oB op ws [] k w).O')] <| .e)) Try.func10 rfl rfl rfl (by kernel_rfl) ?_
 refine tt ⟨fun hs0 => ?_,fun hs0 => ?_⟩
 · have hb := hs0
   refine tt ⟨⟨by omega,oK⟩,tt ⟨⟨by omega,oK⟩,tt ⟨⟨⟨rfl,⟨rfl,rfl,rfl,rfl,oK⟩,oK⟩,(ku op ws [] k w hw hb)⟩,tt ⟨fun hc24 => ?_,fun hc24 => ?_⟩⟩⟩⟩
   · refine tt ⟨⟨?_,?_,oK⟩,⟨oK,oK,oK⟩⟩
     all_goals (first | exact (eo (aZ hb)).1 | exact (eo (aZ hb)).2 | exact (eo (a3 (by simpa using hc24))).1 | exact (eo (a3 (by simpa using hc24))).2 | exact (gY (fM hb (by simpa using hc24))).1 | exact (gY (fM hb (by simpa using hc24))).2)
   · refine tt ⟨⟨?_,?_,oK⟩,⟨oK,oK,oK⟩⟩
     all_goals (first | exact (eo (aZ hb)).1 | exact (eo (aZ hb)).2 | exact (eo (a3 (by simpa using hc24))).1 | exact (eo (a3 (by simpa using hc24))).2 | exact (gY (fM hb (by simpa using hc24))).1 | exact (gY (fM hb (by simpa using hc24))).2)
 · have hb := hs0
   refine tt ⟨⟨by omega,oK⟩,tt ⟨⟨by omega,oK⟩,tt ⟨⟨⟨rfl,⟨rfl,rfl,rfl,rfl,oK⟩,oK⟩,(kv op ws [] k w hw (Bool.eq_false_iff.2 hb))⟩,tt ⟨⟨?_,?_,oK⟩,⟨oK,oK,oK⟩⟩⟩⟩⟩
   all_goals (first | exact (eo (aZ hb)).1 | exact (eo (aZ hb)).2 | exact (eo (a3 (by simpa using hc24))).1 | exact (eo (a3 (by simpa using hc24))).2 | exact (gY (fM hb (by simpa using hc24))).1 | exact (gY (fM hb (by simpa using hc24))).2)
abbrev qk (op : Int) (ws xs nums : List Int) : Ct := ⟨12,[(i6 op),(LI ws),(LI xs),(LI nums)],false,(.tup [(i6 (aB op ws xs nums)),(i6 (aF op ws xs nums))])⟩
abbrev gp (op : Int) (ws : List Int) (xs : List Int) (nums : List Int) : Lp (Nat) := sG [1,10,11,44,45,46] 11 (fun (i : Nat) => ⟨[(1,(LI ws)),(10,(.ptr 9 0 0 0)),(11,(.ptr 10 0 0 0)),(44,(LI xs)),(45,(i6 (xs.length : Int))),(46,(i6 (i : Int)))],[.dead,.dead,.dead,.dead,.dead,.dead,.dead,.dead,.dead,(.var 61 [(LI ws),(LI xs),(i6 (nums.getD 0 0)),(i6 (nums.getD 1 0))]),(.var 57 [(ay op),(.fn (.func (bD op)) [] []),(.fn (.func (bE op)) [] [])])]⟩) (fun (i : Nat) => i ≤ xs.length∧∀ j,j < i → 0 ≤ xs.getD j 0∧xs.getD j 0 ≤ aa (ws.getD j 0)) (fun (i : Nat) => xs.length - i)
theorem dc (op : Int) (ws xs nums : List Int) (hwl : ws.length ≤ 9223372036854775807) (hxl0 : xs.length ≤ 9223372036854775807) : CC (qk op ws xs nums) := by
 refine ai.vc (V := TT 2 (CS ((nums.length : Int) = 2) (TT 3 ((True∧(!decide ((nums.length : Int) = 2)) = false)∧TT 6 (CN ((xs.length : Int) = (ws.length : Int)) (TT 4 (((0 : Int) = (aB op ws xs nums)∧(1 : Int) = (aF op ws xs nums)∧True)∧(True∧True∧True))) (TT 3 (IX 0 nums.length∧TT 2 (IX 1 nums.length∧TT 4 (CS (l3 op ws = true) (TT 2 (CC (oA op ws xs (nums.getD 0 0) (nums.getD 1 0))∧TT 10 (CB (!(ao (aG op ws (nums.getD 0 0) (nums.getD 1 0)))) (TT 4 (((0 : Int) = (aB op ws xs nums)∧(1 : Int) = (aF op ws xs nums)∧True)∧(True∧True∧True))) (TT 3 (GO (gp op ws xs nums) 0 (∀ i,(gp op ws xs nums).inv i → TT 1 (CD ((i : Int) < (xs.length : Int)) (TT 1 (IX (i : Int) xs.length∧TT 3 (CS ((xs.getD i 0) < 0) (TT 2 ((True∧(decide ((xs.getD i 0) < 0)) = true)∧TT 12 (((0 : Int) = (aB op ws xs nums)∧(1 : Int) = (aF op ws xs nums)∧True)∧(True∧True∧True)))) (TT 2 ((True∧(decide ((xs.getD i 0) < 0)) = false)∧TT 3 (IX (i : Int) ws.length∧TT 1 (CC (gf (ws.getD i 0))∧TT 2 (CD ((xs.getD i 0) > (aa (ws.getD i 0))) (TT 4 (((0 : Int) = (aB op ws xs nums)∧(1 : Int) = (aF op ws xs nums)∧True)∧(True∧True∧True))) (W6 ((i + 1 : Nat) : Int)∧TT 1 (AG (gp op ws xs nums) i (i + 1))))))))))) (TT 3 (GC (cV op ws xs (nums.getD 0 0) (nums.getD 1 0))∧TT 4 (((ft op ws xs (nums.getD 0 0) (nums.getD 1 0)) = (aB op ws xs nums)∧(0 : Int) = (aF op ws xs nums)∧True)∧(True∧True∧True))))))))))) (TT 2 (CC (oB op ws xs (nums.getD 0 0) (nums.getD 1 0))∧TT 14 (((0 : Int) = (aB op ws xs nums)∧(1 : Int) = (aF op ws xs nums)∧True)∧(True∧True∧True))))))))))) (TT 3 ((True∧(!decide ((nums.length : Int) = 2)) = true)∧TT 10 (((0 : Int) = (aB op ws xs nums)∧(1 : Int) = (aF op ws xs nums)∧True)∧(True∧True∧True)))))) (.s 1 ((nums.length : Int) = 2) (.w 1 [(3,.val (dB false))] <| .b 25 (.e) (.s 4 (l3 op ws = true) (.w 4 [(2,(oA op ws xs (nums.getD 0 0) (nums.getD 1 0)).O)] <| .b 43 (.e) (.l (gp op ws xs nums) 0 (fun i => .b 47 (.s 10 ((xs.getD i 0) < 0) (.w 10 [(2,.val (dB true))] <| .e) (.w 10 [(2,.val (dB false)),(8,(gf (ws.getD i 0)).O)] <| .b 61 (.e) (.w 12 [(0,.val (i6 ((i + 1 : Nat) : Int)))] <| .e))) (.w 13 [(3,.callg none false (i6 (ft op ws xs (nums.getD 0 0) (nums.getD 1 0))))] <| .e)))) (.w 4 [(2,(oB op ws xs (nums.getD 0 0) (nums.getD 1 0)).O)] <| .e))) (.w 1 [(3,.val (dB true))] <| .e)) Try.func12 rfl rfl rfl (by kernel_rfl) ?_
 refine tt ⟨fun hs0 => ?_,fun hs0 => ?_⟩
 · refine tt ⟨(nF hs0),tt (cn (fun hc25 => ?_) (fun hc25 => ?_))⟩
   · refine tt ⟨⟨?_,?_,oK⟩,⟨oK,oK,oK⟩⟩
     all_goals (first | exact (ax (gd (by omega))).1.symm | exact (ax (gd (by omega))).2.symm | exact (ax (ge (by omega))).1.symm | exact (ax (ge (by omega))).2.symm | exact (ax (aU (aZ hb))).1.symm | exact (ax (aU (aZ hb))).2.symm | exact (ax (aU (a3 (by simpa using hc43)))).1.symm | exact (ax (aU (a3 (by simpa using hc43)))).2.symm | exact (ax (dl (i := i) (by omega) (by omega))).1.symm | exact (ax (dl (i := i) (by omega) (by omega))).2.symm | exact (bU hl2 hxl hok hin).1.symm | exact (bU hl2 hxl hok hin).2.symm)
   · refine tt ⟨ix,tt ⟨ix,tt ⟨fun hs1 => ?_,fun hs1 => ?_⟩⟩⟩
     · have hb := hs1
       refine tt ⟨(ku op ws xs (nums.getD 0 0) (nums.getD 1 0) hwl hb),tt ⟨fun hc43 => ?_,fun hc43 => ?_⟩⟩
       · refine tt ⟨⟨?_,?_,oK⟩,⟨oK,oK,oK⟩⟩
         all_goals (first | exact (ax (gd (by omega))).1.symm | exact (ax (gd (by omega))).2.symm | exact (ax (ge (by omega))).1.symm | exact (ax (ge (by omega))).2.symm | exact (ax (aU (aZ hb))).1.symm | exact (ax (aU (aZ hb))).2.symm | exact (ax (aU (a3 (by simpa using hc43)))).1.symm | exact (ax (aU (a3 (by simpa using hc43)))).2.symm | exact (ax (dl (i := i) (by omega) (by omega))).1.symm | exact (ax (dl (i := i) (by omega) (by omega))).2.symm | exact (bU hl2 hxl hok hin).1.symm | exact (bU hl2 hxl hok hin).2.symm)
       · refine tt ?_
         have hok := fM hb (by simpa using hc43)
         have hl2 : nums.length = 2 := by omega
         have hxl : xs.length = ws.length := by omega
         refine ⟨rfl,⟨by omega,fun j hj => by omega⟩,?_⟩
         intro i hinv
         obtain ⟨hi,hall⟩ := hinv
         refine tt (cd (fun hc47 => ?_) (fun hc47 => ?_))
         · refine tt ⟨ix,tt ⟨fun hs2 => ?_,fun hs2 => ?_⟩⟩
           · refine tt ⟨(vT hs2),tt ⟨⟨?_,?_,oK⟩,⟨oK,oK,oK⟩⟩⟩
             all_goals (first | exact (ax (gd (by omega))).1.symm | exact (ax (gd (by omega))).2.symm | exact (ax (ge (by omega))).1.symm | exact (ax (ge (by omega))).2.symm | exact (ax (aU (aZ hb))).1.symm | exact (ax (aU (aZ hb))).2.symm | exact (ax (aU (a3 (by simpa using hc43)))).1.symm | exact (ax (aU (a3 (by simpa using hc43)))).2.symm | exact (ax (dl (i := i) (by omega) (by omega))).1.symm | exact (ax (dl (i := i) (by omega) (by omega))).2.symm | exact (bU hl2 hxl hok hin).1.symm | exact (bU hl2 hxl hok hin).2.symm)
           · refine tt ⟨(vF hs2),tt ⟨ix,tt ⟨(bw (ws.getD i 0)),tt (cd (fun hc61 => ?_) (fun hc61 => ?_))⟩⟩⟩
             · refine tt ⟨⟨?_,?_,oK⟩,⟨oK,oK,oK⟩⟩
               all_goals (first | exact (ax (gd (by omega))).1.symm | exact (ax (gd (by omega))).2.symm | exact (ax (ge (by omega))).1.symm | exact (ax (ge (by omega))).2.symm | exact (ax (aU (aZ hb))).1.symm | exact (ax (aU (aZ hb))).2.symm | exact (ax (aU (a3 (by simpa using hc43)))).1.symm | exact (ax (aU (a3 (by simpa using hc43)))).2.symm | exact (ax (dl (i := i) (by omega) (by omega))).1.symm | exact (ax (dl (i := i) (by omega) (by omega))).2.symm | exact (bU hl2 hxl hok hin).1.symm | exact (bU hl2 hxl hok hin).2.symm)
             · refine ⟨w6,tt ⟨(i + 1),rfl,?_,(?_ : xs.length - (i + 1) < xs.length - i)⟩⟩
               · exact ⟨by omega,qb hall ⟨by omega,by omega⟩⟩
               · omega
         · have hin : oI ws xs = true := po (fun j hj => hall j (by omega))
           refine tt ⟨(sd op ws xs _ _ hok hxl hin),tt ⟨⟨?_,?_,oK⟩,⟨oK,oK,oK⟩⟩⟩
           all_goals (first | exact (ax (gd (by omega))).1.symm | exact (ax (gd (by omega))).2.symm | exact (ax (ge (by omega))).1.symm | exact (ax (ge (by omega))).2.symm | exact (ax (aU (aZ hb))).1.symm | exact (ax (aU (aZ hb))).2.symm | exact (ax (aU (a3 (by simpa using hc43)))).1.symm | exact (ax (aU (a3 (by simpa using hc43)))).2.symm | exact (ax (dl (i := i) (by omega) (by omega))).1.symm | exact (ax (dl (i := i) (by omega) (by omega))).2.symm | exact (bU hl2 hxl hok hin).1.symm | exact (bU hl2 hxl hok hin).2.symm)
     · have hb := hs1
       refine tt ⟨(kv op ws xs (nums.getD 0 0) (nums.getD 1 0) hwl (Bool.eq_false_iff.2 hb)),tt ⟨⟨?_,?_,oK⟩,⟨oK,oK,oK⟩⟩⟩
       all_goals (first | exact (ax (gd (by omega))).1.symm | exact (ax (gd (by omega))).2.symm | exact (ax (ge (by omega))).1.symm | exact (ax (ge (by omega))).2.symm | exact (ax (aU (aZ hb))).1.symm | exact (ax (aU (aZ hb))).2.symm | exact (ax (aU (a3 (by simpa using hc43)))).1.symm | exact (ax (aU (a3 (by simpa using hc43)))).2.symm | exact (ax (dl (i := i) (by omega) (by omega))).1.symm | exact (ax (dl (i := i) (by omega) (by omega))).2.symm | exact (bU hl2 hxl hok hin).1.symm | exact (bU hl2 hxl hok hin).2.symm)
 · refine tt ⟨(nT hs0),tt ⟨⟨?_,?_,oK⟩,⟨oK,oK,oK⟩⟩⟩
   all_goals (first | exact (ax (gd (by omega))).1.symm | exact (ax (gd (by omega))).2.symm | exact (ax (ge (by omega))).1.symm | exact (ax (ge (by omega))).2.symm | exact (ax (aU (aZ hb))).1.symm | exact (ax (aU (aZ hb))).2.symm | exact (ax (aU (a3 (by simpa using hc43)))).1.symm | exact (ax (aU (a3 (by simpa using hc43)))).2.symm | exact (ax (dl (i := i) (by omega) (by omega))).1.symm | exact (ax (dl (i := i) (by omega) (by omega))).2.symm | exact (bU hl2 hxl hok hin).1.symm | exact (bU hl2 hxl hok hin).2.symm)
end Go.Proofs.Ytaghhicmnalmmaa
