/-
  Package bits: the tables of operators; Width, Apply.
-/
import Derived.Test.YtgfbfajaaaegjaaQVbB
namespace Go.Proofs.Ytgfbfajaaaegjaa
open Go.RowKit
set_option linter.unusedVariables false
set_option linter.unusedSimpArgs false
abbrev dc : ar := (.var 128 [(i6 0),(.v .nilf),(.v .nilf)])
abbrev aR (op : Int) : D := (i6 (bo op))
abbrev b9 : D := (.ptr 1 0 0 0)
abbrev cg : D := (.ptr 2 0 0 0)
set_option maxRecDepth 100000
def dT : List (Int × Value) := [(2,.agg #[.int .i64 1,.func (.func 78) #[] #[],.func (.func 79) #[] #[]]),(3,.agg #[.int .i64 2,.func (.func 81) #[] #[],.func (.func 82) #[] #[]]),(4,.agg #[.int .i64 2,.func (.func 81) #[] #[],.func (.func 83) #[] #[]]),(5,.agg #[.int .i64 2,.func (.func 81) #[] #[],.func (.func 84) #[] #[]]),(6,.agg #[.int .i64 2,.func (.func 81) #[] #[],.func (.func 85) #[] #[]]),(7,.agg #[.int .i64 2,.func (.func 81) #[] #[],.func (.func 86) #[] #[]]),(8,.agg #[.int .i64 2,.func (.func 87) #[] #[],.func (.func 88) #[] #[]]),(9,.agg #[.int .i64 2,.func (.func 87) #[] #[],.func (.func 90) #[] #[]])]
set_option maxHeartbeats 800000 in
theorem tD (w : World) : Calls Try.prog 71 #[] w (fun e w' => ∃ arr : Array MapEntry,e = .returned (.map (some w.heap.size))∧w' = w.alloc (.map arr 8)∧arr.toList.map (fun e => (e.key,e.val)) = dT.map (fun e => (Value.int .i64 e.1,e.2))) := by
  go_enter Try.func71,Try.ntmps71
  go_wp2_with (first | (rw [oY]) | (rw [qE Try.underlying151 Try.underlying3 (by rfl)]))
  go_ret
  exact ⟨_,rfl,rfl,rfl⟩
abbrev AA : Ct := ⟨71,[],false,.v (.mp dT)⟩
theorem kq : CC AA := ak.of_map tD
def eF : List (Int × Value) := [(1,.agg #[.int .i64 0,.func (.func 91) #[] #[],.func (.func 92) #[] #[]]),(10,.agg #[.int .i64 3,.func (.func 93) #[] #[],.func (.func 94) #[] #[]]),(11,.agg #[.int .i64 2,.func (.func 95) #[] #[],.func (.func 96) #[] #[]]),(12,.agg #[.int .i64 1,.func (.func 97) #[] #[],.func (.func 98) #[] #[]]),(13,.agg #[.int .i64 1,.func (.func 99) #[] #[],.func (.func 100) #[] #[]])]
set_option maxHeartbeats 800000 in
theorem tE (w : World) : Calls Try.prog 72 #[] w (fun e w' => ∃ arr : Array MapEntry,e = .returned (.map (some w.heap.size))∧w' = w.alloc (.map arr 5)∧arr.toList.map (fun e => (e.key,e.val)) = eF.map (fun e => (Value.int .i64 e.1,e.2))) := by
  go_enter Try.func72,Try.ntmps72
  go_wp2_with (first | (rw [oY]) | (rw [qE Try.underlying151 Try.underlying3 (by rfl)]))
  go_ret
  exact ⟨_,rfl,rfl,rfl⟩
abbrev B1 : Ct := ⟨72,[],false,.v (.mp eF)⟩
theorem ou : CC B1 := ak.of_map tE
def c5 (op : Int) : Nat :=
  if op = 1 then 91 else
  if op = 2 then 78 else
  if op = 3 then 81 else
  if op = 4 then 81 else
  if op = 5 then 81 else
  if op = 6 then 81 else
  if op = 7 then 81 else
  if op = 8 then 87 else
  if op = 9 then 87 else
  if op = 10 then 93 else
  if op = 11 then 95 else
  if op = 12 then 97 else
  if op = 13 then 99 else 0
def c6 (op : Int) : Nat :=
  if op = 1 then 92 else
  if op = 2 then 79 else
  if op = 3 then 82 else
  if op = 4 then 83 else
  if op = 5 then 84 else
  if op = 6 then 85 else
  if op = 7 then 86 else
  if op = 8 then 88 else
  if op = 9 then 90 else
  if op = 10 then 94 else
  if op = 11 then 96 else
  if op = 12 then 98 else
  if op = 13 then 100 else 0
abbrev cW (op : Int) (ws xs : List Int) (k w : Int) : Ct := ⟨c5 op,[(.agg [(LI ws),(LI xs),(i6 k),(i6 w)])],false,i6 (bc op ws k w)⟩
abbrev cV (op : Int) (ws xs : List Int) (k w : Int) : Ct := ⟨c6 op,[(.agg [(LI ws),(LI xs),(i6 k),(i6 w)])],false,i6 (kT op ws xs k w)⟩
theorem qS {op : Int} {ws : List Int} (h : uH op ws = true) : op = 1 ∨ op = 2 ∨ op = 3 ∨ op = 4 ∨ op = 5 ∨ op = 6 ∨ op = 7 ∨ op = 8 ∨ op = 9 ∨ op = 10 ∨ op = 11 ∨ op = 12 ∨ op = 13 := by
  have h1 := (tn h).1
  by_cases hr : op < 1 ∨ 13 < op
  · have : bo op = -1 := by unfold bo; rw [if_neg (by omega),if_neg (by omega),if_neg (by omega),if_neg (by omega)]
    omega
  · omega
theorem Bb (op : Int) (ws xs : List Int) (k w : Int) (h : uH op ws = true) : GC (cW op ws xs k w) := by
  obtain ⟨h1,hf⟩ := tn h
  rcases qS h with rfl | rfl | rfl | rfl | rfl | rfl | rfl | rfl | rfl | rfl | rfl | rfl | rfl
  · (have hl : (ws.length : Int) = 0 := h1); exact ⟨by kernel_rfl,xO ws xs k w (by omega) hf⟩
  · (have hl : (ws.length : Int) = 1 := h1); exact ⟨by kernel_rfl,zi ws xs k w (by omega) hf⟩
  · (have hl : (ws.length : Int) = 2 := h1); exact ⟨by kernel_rfl,ik ws xs k w (by omega) hf⟩
  · (have hl : (ws.length : Int) = 2 := h1); exact ⟨by kernel_rfl,ik ws xs k w (by omega) hf⟩
  · (have hl : (ws.length : Int) = 2 := h1); exact ⟨by kernel_rfl,ik ws xs k w (by omega) hf⟩
  · (have hl : (ws.length : Int) = 2 := h1); exact ⟨by kernel_rfl,ik ws xs k w (by omega) hf⟩
  · (have hl : (ws.length : Int) = 2 := h1); exact ⟨by kernel_rfl,ik ws xs k w (by omega) hf⟩
  · (have hl : (ws.length : Int) = 2 := h1); exact ⟨by kernel_rfl,zj ws xs k w (by omega) hf⟩
  · (have hl : (ws.length : Int) = 2 := h1); exact ⟨by kernel_rfl,zj ws xs k w (by omega) hf⟩
  · (have hl : (ws.length : Int) = 3 := h1); exact ⟨by kernel_rfl,Ax ws xs k w (by omega) hf⟩
  · (have hl : (ws.length : Int) = 2 := h1); exact ⟨by kernel_rfl,Ay ws xs k w (by omega) hf⟩
  · (have hl : (ws.length : Int) = 1 := h1); exact ⟨by kernel_rfl,xP ws xs k w (by omega) hf⟩
  · (have hl : (ws.length : Int) = 1 := h1); exact ⟨by kernel_rfl,Az ws xs k w (by omega) hf⟩
theorem C2 (op : Int) (ws xs : List Int) (k w : Int) (h : kS op ws k w = true) (hx : xs.length = ws.length) (hin : xE ws xs = true) : GC (cV op ws xs k w) := by
  obtain ⟨h1,hf,h3⟩ := oc h
  have hb : uH op ws = true := by unfold uH; rw [decide_eq_true h1,hf]; rfl
  rcases qS hb with rfl | rfl | rfl | rfl | rfl | rfl | rfl | rfl | rfl | rfl | rfl | rfl | rfl
  · (have hl : (ws.length : Int) = 0 := h1); exact ⟨by kernel_rfl,zk ws xs k w ⟨by omega,hf,hx,hin⟩⟩
  · (have hl : (ws.length : Int) = 1 := h1); exact ⟨by kernel_rfl,BR ws xs k w ⟨by omega,hf,hx,hin⟩⟩
  · (have hl : (ws.length : Int) = 2 := h1); exact ⟨by kernel_rfl,BS ws xs k w ⟨by omega,hf,hx,hin⟩⟩
  · (have hl : (ws.length : Int) = 2 := h1); exact ⟨by kernel_rfl,CY ws xs k w ⟨by omega,hf,hx,hin⟩⟩
  · (have hl : (ws.length : Int) = 2 := h1); exact ⟨by kernel_rfl,BT ws xs k w ⟨by omega,hf,hx,hin⟩⟩
  · (have hl : (ws.length : Int) = 2 := h1); exact ⟨by kernel_rfl,BU ws xs k w ⟨by omega,hf,hx,hin⟩⟩
  · (have hl : (ws.length : Int) = 2 := h1); exact ⟨by kernel_rfl,BV ws xs k w ⟨by omega,hf,hx,hin⟩⟩
  · (have hl : (ws.length : Int) = 2 := h1); exact ⟨by kernel_rfl,CZ ws xs k w ⟨by omega,hf,hx,hin⟩⟩
  · (have hl : (ws.length : Int) = 2 := h1); exact ⟨by kernel_rfl,C0 ws xs k w ⟨by omega,hf,hx,hin⟩⟩
  · (have hl : (ws.length : Int) = 3 := h1); exact ⟨by kernel_rfl,BX ws xs k w ⟨by omega,hf,hx,hin⟩ (wK h)⟩
  · (have hl : (ws.length : Int) = 2 := h1); exact ⟨by kernel_rfl,BZ ws xs k w ⟨by omega,hf,hx,hin⟩⟩
  · (have hl : (ws.length : Int) = 1 := h1); exact ⟨by kernel_rfl,zl ws xs k w ⟨by omega,hf,hx,hin⟩ (wL h)⟩
  · (have hl : (ws.length : Int) = 1 := h1); exact ⟨by kernel_rfl,BW ws xs k w ⟨by omega,hf,hx,hin⟩⟩
theorem qU {op : Int} (h : op = 2 ∨ op = 3 ∨ op = 4 ∨ op = 5 ∨ op = 6 ∨ op = 7 ∨ op = 8 ∨ op = 9) : ∃ (j : Nat) (e : Int × Value),dT[j]? = some e∧op = e.1∧(∀ e' ∈ dT.take j,op ≠ e'.1)∧sW (D.ofVal e.2) (.agg [(aR op),(.fn (.func (c5 op)) [] []),(.fn (.func (c6 op)) [] [])]) := by
  rcases h with rfl | rfl | rfl | rfl | rfl | rfl | rfl | rfl
  · exact ⟨0,_,rfl,rfl,by decide,⟨rfl,rfl,rfl,oK⟩⟩
  · exact ⟨1,_,rfl,rfl,by decide,⟨rfl,rfl,rfl,oK⟩⟩
  · exact ⟨2,_,rfl,rfl,by decide,⟨rfl,rfl,rfl,oK⟩⟩
  · exact ⟨3,_,rfl,rfl,by decide,⟨rfl,rfl,rfl,oK⟩⟩
  · exact ⟨4,_,rfl,rfl,by decide,⟨rfl,rfl,rfl,oK⟩⟩
  · exact ⟨5,_,rfl,rfl,by decide,⟨rfl,rfl,rfl,oK⟩⟩
  · exact ⟨6,_,rfl,rfl,by decide,⟨rfl,rfl,rfl,oK⟩⟩
  · exact ⟨7,_,rfl,rfl,by decide,⟨rfl,rfl,rfl,oK⟩⟩
theorem qV {op : Int} (h : ¬(op = 2 ∨ op = 3 ∨ op = 4 ∨ op = 5 ∨ op = 6 ∨ op = 7 ∨ op = 8 ∨ op = 9)) : ∀ e' ∈ dT,op ≠ e'.1 := by
  intro e' he'
  simp only [dT,List.mem_cons,List.not_mem_nil,or_false] at he'
  rcases he' with rfl | rfl | rfl | rfl | rfl | rfl | rfl | rfl <;> simp only [ne_eq] <;> omega
theorem qW {op : Int} (h : op = 1 ∨ op = 10 ∨ op = 11 ∨ op = 12 ∨ op = 13) : ∃ (j : Nat) (e : Int × Value),eF[j]? = some e∧op = e.1∧(∀ e' ∈ eF.take j,op ≠ e'.1)∧sW (D.ofVal e.2) (.agg [(aR op),(.fn (.func (c5 op)) [] []),(.fn (.func (c6 op)) [] [])]) := by
  rcases h with rfl | rfl | rfl | rfl | rfl
  · exact ⟨0,_,rfl,rfl,by decide,⟨rfl,rfl,rfl,oK⟩⟩
  · exact ⟨1,_,rfl,rfl,by decide,⟨rfl,rfl,rfl,oK⟩⟩
  · exact ⟨2,_,rfl,rfl,by decide,⟨rfl,rfl,rfl,oK⟩⟩
  · exact ⟨3,_,rfl,rfl,by decide,⟨rfl,rfl,rfl,oK⟩⟩
  · exact ⟨4,_,rfl,rfl,by decide,⟨rfl,rfl,rfl,oK⟩⟩
theorem vZ {op : Int} (h : ¬(op = 1 ∨ op = 10 ∨ op = 11 ∨ op = 12 ∨ op = 13)) : ∀ e' ∈ eF,op ≠ e'.1 := by
  intro e' he'
  simp only [eF,List.mem_cons,List.not_mem_nil,or_false] at he'
  rcases he' with rfl | rfl | rfl | rfl | rfl <;> simp only [ne_eq] <;> omega
abbrev xR (op : Int) (ws xs : List Int) (k w : Int) : Ct := ⟨53,[(i6 op),(.agg [(LI ws),(LI xs),(i6 k),(i6 w)])],true,(.tup [(.agg [(aR op),(.fn (.func (c5 op)) [] []),(.fn (.func (c6 op)) [] [])]),(i6 (bc op ws k w)),(dB (an (bc op ws k w)))])⟩
def jE (op : Int) (ws : List Int) (xs : List Int) (k : Int) (w : Int) : St := ⟨[(4,b9),(7,cg),(9,(i6 (bc op ws k w)))],[(.var 125 [(LI ws),(LI xs),(i6 k),(i6 w)]),dc,(.var 128 [(aR op),(.fn (.func (c5 op)) [] []),(.fn (.func (c6 op)) [] [])])]⟩
def o8 (op : Int) (ws : List Int) (xs : List Int) (k : Int) (w : Int) : St := ⟨[(4,b9),(7,cg),(9,(i6 (bc op ws k w))),(44,(.agg [(aR op),(.fn (.func (c5 op)) [] []),(.fn (.func (c6 op)) [] [])]))],[(.var 125 [(LI ws),(LI xs),(i6 k),(i6 w)]),dc,(.var 128 [(aR op),(.fn (.func (c5 op)) [] []),(.fn (.func (c6 op)) [] [])])]⟩
def o9 (op : Int) (ws : List Int) (xs : List Int) (k : Int) (w : Int) : St := ⟨[(4,b9),(7,cg),(9,(i6 (bc op ws k w))),(45,(i6 (bc op ws k w)))],[(.var 125 [(LI ws),(LI xs),(i6 k),(i6 w)]),dc,(.var 128 [(aR op),(.fn (.func (c5 op)) [] []),(.fn (.func (c6 op)) [] [])])]⟩
def pb (op : Int) (ws : List Int) (xs : List Int) (k : Int) (w : Int) : St := ⟨[(4,b9),(7,cg),(9,(i6 (bc op ws k w))),(46,(i6 (bc op ws k w)))],[(.var 125 [(LI ws),(LI xs),(i6 k),(i6 w)]),dc,(.var 128 [(aR op),(.fn (.func (c5 op)) [] []),(.fn (.func (c6 op)) [] [])])]⟩
def jF (op : Int) (ws : List Int) (xs : List Int) (k : Int) (w : Int) : St := ⟨[(4,b9),(7,cg),(9,(i6 (bc op ws k w))),(44,(.agg [(aR op),(.fn (.func (c5 op)) [] []),(.fn (.func (c6 op)) [] [])])),(45,(i6 (bc op ws k w)))],[(.var 125 [(LI ws),(LI xs),(i6 k),(i6 w)]),dc,(.var 128 [(aR op),(.fn (.func (c5 op)) [] []),(.fn (.func (c6 op)) [] [])])]⟩
def jG (op : Int) (ws : List Int) (xs : List Int) (k : Int) (w : Int) : St := ⟨[(4,b9),(7,cg),(9,(i6 (bc op ws k w))),(44,(.agg [(aR op),(.fn (.func (c5 op)) [] []),(.fn (.func (c6 op)) [] [])])),(46,(i6 (bc op ws k w)))],[(.var 125 [(LI ws),(LI xs),(i6 k),(i6 w)]),dc,(.var 128 [(aR op),(.fn (.func (c5 op)) [] []),(.fn (.func (c6 op)) [] [])])]⟩
def jH (op : Int) (ws : List Int) (xs : List Int) (k : Int) (w : Int) : St := ⟨[(4,b9),(7,cg),(9,(i6 (bc op ws k w))),(45,(i6 (bc op ws k w))),(46,(i6 (bc op ws k w)))],[(.var 125 [(LI ws),(LI xs),(i6 k),(i6 w)]),dc,(.var 128 [(aR op),(.fn (.func (c5 op)) [] []),(.fn (.func (c6 op)) [] [])])]⟩
def pc (op : Int) (ws : List Int) (xs : List Int) (k : Int) (w : Int) : St := ⟨[(4,b9),(7,cg),(9,(i6 (bc op ws k w))),(46,(i6 (bc op ws k w))),(47,(dB (an (bc op ws k w))))],[(.var 125 [(LI ws),(LI xs),(i6 k),(i6 w)]),dc,(.var 128 [(aR op),(.fn (.func (c5 op)) [] []),(.fn (.func (c6 op)) [] [])])]⟩
def gF (op : Int) (ws : List Int) (xs : List Int) (k : Int) (w : Int) : St := ⟨[(4,b9),(7,cg),(9,(i6 (bc op ws k w))),(44,(.agg [(aR op),(.fn (.func (c5 op)) [] []),(.fn (.func (c6 op)) [] [])])),(45,(i6 (bc op ws k w))),(46,(i6 (bc op ws k w)))],[(.var 125 [(LI ws),(LI xs),(i6 k),(i6 w)]),dc,(.var 128 [(aR op),(.fn (.func (c5 op)) [] []),(.fn (.func (c6 op)) [] [])])]⟩
def jI (op : Int) (ws : List Int) (xs : List Int) (k : Int) (w : Int) : St := ⟨[(4,b9),(7,cg),(9,(i6 (bc op ws k w))),(44,(.agg [(aR op),(.fn (.func (c5 op)) [] []),(.fn (.func (c6 op)) [] [])])),(46,(i6 (bc op ws k w))),(47,(dB (an (bc op ws k w))))],[(.var 125 [(LI ws),(LI xs),(i6 k),(i6 w)]),dc,(.var 128 [(aR op),(.fn (.func (c5 op)) [] []),(.fn (.func (c6 op)) [] [])])]⟩
def iP (op : Int) (ws : List Int) (xs : List Int) (k : Int) (w : Int) : St := ⟨[(4,b9),(7,cg),(9,(i6 (bc op ws k w))),(45,(i6 (bc op ws k w))),(46,(i6 (bc op ws k w))),(47,(dB (an (bc op ws k w))))],[(.var 125 [(LI ws),(LI xs),(i6 k),(i6 w)]),dc,(.var 128 [(aR op),(.fn (.func (c5 op)) [] []),(.fn (.func (c6 op)) [] [])])]⟩
def fB (op : Int) (ws : List Int) (xs : List Int) (k : Int) (w : Int) : St := ⟨[(4,b9),(7,cg),(9,(i6 (bc op ws k w))),(44,(.agg [(aR op),(.fn (.func (c5 op)) [] []),(.fn (.func (c6 op)) [] [])])),(45,(i6 (bc op ws k w))),(46,(i6 (bc op ws k w))),(47,(dB (an (bc op ws k w))))],[(.var 125 [(LI ws),(LI xs),(i6 k),(i6 w)]),dc,(.var 128 [(aR op),(.fn (.func (c5 op)) [] []),(.fn (.func (c6 op)) [] [])])]⟩
def mL (op : Int) (ws : List Int) (xs : List Int) (k : Int) (w : Int) : St := ⟨[(4,b9),(7,cg),(9,(i6 (bc op ws k w))),(44,(.agg [(aR op),(.fn (.func (c5 op)) [] []),(.fn (.func (c6 op)) [] [])])),(46,(i6 (bc op ws k w))),(47,(dB (an (bc op ws k w))))],[(.var 125 [(LI ws),(LI xs),(i6 k),(i6 w)]),(.var 128 [(aR op),(.fn (.func (c5 op)) [] []),(.fn (.func (c6 op)) [] [])]),(.var 128 [(aR op),(.fn (.func (c5 op)) [] []),(.fn (.func (c6 op)) [] [])])]⟩
def iQ (op : Int) (ws : List Int) (xs : List Int) (k : Int) (w : Int) : St := ⟨[(4,b9),(7,cg),(9,(i6 (bc op ws k w))),(44,(.agg [(aR op),(.fn (.func (c5 op)) [] []),(.fn (.func (c6 op)) [] [])])),(45,(i6 (bc op ws k w))),(46,(i6 (bc op ws k w))),(47,(dB (an (bc op ws k w))))],[(.var 125 [(LI ws),(LI xs),(i6 k),(i6 w)]),(.var 128 [(aR op),(.fn (.func (c5 op)) [] []),(.fn (.func (c6 op)) [] [])]),(.var 128 [(aR op),(.fn (.func (c5 op)) [] []),(.fn (.func (c6 op)) [] [])])]⟩
def mM (op : Int) (ws : List Int) (xs : List Int) (k : Int) (w : Int) : St := ⟨[(4,b9),(5,(i6 (bc op ws k w))),(7,cg),(9,(i6 (bc op ws k w))),(44,(.agg [(aR op),(.fn (.func (c5 op)) [] []),(.fn (.func (c6 op)) [] [])])),(45,(i6 (bc op ws k w))),(46,(i6 (bc op ws k w))),(47,(dB (an (bc op ws k w))))],[(.var 125 [(LI ws),(LI xs),(i6 k),(i6 w)]),(.var 128 [(aR op),(.fn (.func (c5 op)) [] []),(.fn (.func (c6 op)) [] [])]),(.var 128 [(aR op),(.fn (.func (c5 op)) [] []),(.fn (.func (c6 op)) [] [])])]⟩
def mN (op : Int) (ws : List Int) (xs : List Int) (k : Int) (w : Int) : St := ⟨[(4,b9),(5,(i6 (bc op ws k w))),(6,(dB (an (bc op ws k w))))],[(.var 125 [(LI ws),(LI xs),(i6 k),(i6 w)]),(.var 128 [(aR op),(.fn (.func (c5 op)) [] []),(.fn (.func (c6 op)) [] [])]),(.var 128 [(aR op),(.fn (.func (c5 op)) [] []),(.fn (.func (c6 op)) [] [])])]⟩
def iR (op : Int) (ws : List Int) (xs : List Int) (k : Int) (w : Int) : St := ⟨[(4,b9),(7,cg),(9,(i6 (bc op ws k w)))],[(.var 125 [(LI ws),(LI xs),(i6 k),(i6 w)]),dc,(.var 128 [(aR op),(.fn (.func (c5 op)) [] []),(.fn (.func (c6 op)) [] [])])]⟩
def mO (op : Int) (ws : List Int) (xs : List Int) (k : Int) (w : Int) : St := ⟨[(4,b9),(7,cg),(9,(i6 (bc op ws k w))),(44,(.agg [(aR op),(.fn (.func (c5 op)) [] []),(.fn (.func (c6 op)) [] [])]))],[(.var 125 [(LI ws),(LI xs),(i6 k),(i6 w)]),dc,(.var 128 [(aR op),(.fn (.func (c5 op)) [] []),(.fn (.func (c6 op)) [] [])])]⟩
def mP (op : Int) (ws : List Int) (xs : List Int) (k : Int) (w : Int) : St := ⟨[(4,b9),(7,cg),(9,(i6 (bc op ws k w))),(45,(i6 (bc op ws k w)))],[(.var 125 [(LI ws),(LI xs),(i6 k),(i6 w)]),dc,(.var 128 [(aR op),(.fn (.func (c5 op)) [] []),(.fn (.func (c6 op)) [] [])])]⟩
def mQ (op : Int) (ws : List Int) (xs : List Int) (k : Int) (w : Int) : St := ⟨[(4,b9),(7,cg),(9,(i6 (bc op ws k w))),(46,(i6 (bc op ws k w)))],[(.var 125 [(LI ws),(LI xs),(i6 k),(i6 w)]),dc,(.var 128 [(aR op),(.fn (.func (c5 op)) [] []),(.fn (.func (c6 op)) [] [])])]⟩
def iT (op : Int) (ws : List Int) (xs : List Int) (k : Int) (w : Int) : St := ⟨[(4,b9),(7,cg),(9,(i6 (bc op ws k w))),(44,(.agg [(aR op),(.fn (.func (c5 op)) [] []),(.fn (.func (c6 op)) [] [])])),(45,(i6 (bc op ws k w)))],[(.var 125 [(LI ws),(LI xs),(i6 k),(i6 w)]),dc,(.var 128 [(aR op),(.fn (.func (c5 op)) [] []),(.fn (.func (c6 op)) [] [])])]⟩
def iU (op : Int) (ws : List Int) (xs : List Int) (k : Int) (w : Int) : St := ⟨[(4,b9),(7,cg),(9,(i6 (bc op ws k w))),(44,(.agg [(aR op),(.fn (.func (c5 op)) [] []),(.fn (.func (c6 op)) [] [])])),(46,(i6 (bc op ws k w)))],[(.var 125 [(LI ws),(LI xs),(i6 k),(i6 w)]),dc,(.var 128 [(aR op),(.fn (.func (c5 op)) [] []),(.fn (.func (c6 op)) [] [])])]⟩
def iV (op : Int) (ws : List Int) (xs : List Int) (k : Int) (w : Int) : St := ⟨[(4,b9),(7,cg),(9,(i6 (bc op ws k w))),(45,(i6 (bc op ws k w))),(46,(i6 (bc op ws k w)))],[(.var 125 [(LI ws),(LI xs),(i6 k),(i6 w)]),dc,(.var 128 [(aR op),(.fn (.func (c5 op)) [] []),(.fn (.func (c6 op)) [] [])])]⟩
def mR (op : Int) (ws : List Int) (xs : List Int) (k : Int) (w : Int) : St := ⟨[(4,b9),(7,cg),(9,(i6 (bc op ws k w))),(46,(i6 (bc op ws k w))),(47,(dB (an (bc op ws k w))))],[(.var 125 [(LI ws),(LI xs),(i6 k),(i6 w)]),dc,(.var 128 [(aR op),(.fn (.func (c5 op)) [] []),(.fn (.func (c6 op)) [] [])])]⟩
def fC (op : Int) (ws : List Int) (xs : List Int) (k : Int) (w : Int) : St := ⟨[(4,b9),(7,cg),(9,(i6 (bc op ws k w))),(44,(.agg [(aR op),(.fn (.func (c5 op)) [] []),(.fn (.func (c6 op)) [] [])])),(45,(i6 (bc op ws k w))),(46,(i6 (bc op ws k w)))],[(.var 125 [(LI ws),(LI xs),(i6 k),(i6 w)]),dc,(.var 128 [(aR op),(.fn (.func (c5 op)) [] []),(.fn (.func (c6 op)) [] [])])]⟩
def iW (op : Int) (ws : List Int) (xs : List Int) (k : Int) (w : Int) : St := ⟨[(4,b9),(7,cg),(9,(i6 (bc op ws k w))),(44,(.agg [(aR op),(.fn (.func (c5 op)) [] []),(.fn (.func (c6 op)) [] [])])),(46,(i6 (bc op ws k w))),(47,(dB (an (bc op ws k w))))],[(.var 125 [(LI ws),(LI xs),(i6 k),(i6 w)]),dc,(.var 128 [(aR op),(.fn (.func (c5 op)) [] []),(.fn (.func (c6 op)) [] [])])]⟩
def gU (op : Int) (ws : List Int) (xs : List Int) (k : Int) (w : Int) : St := ⟨[(4,b9),(7,cg),(9,(i6 (bc op ws k w))),(45,(i6 (bc op ws k w))),(46,(i6 (bc op ws k w))),(47,(dB (an (bc op ws k w))))],[(.var 125 [(LI ws),(LI xs),(i6 k),(i6 w)]),dc,(.var 128 [(aR op),(.fn (.func (c5 op)) [] []),(.fn (.func (c6 op)) [] [])])]⟩
def e9 (op : Int) (ws : List Int) (xs : List Int) (k : Int) (w : Int) : St := ⟨[(4,b9),(7,cg),(9,(i6 (bc op ws k w))),(44,(.agg [(aR op),(.fn (.func (c5 op)) [] []),(.fn (.func (c6 op)) [] [])])),(45,(i6 (bc op ws k w))),(46,(i6 (bc op ws k w))),(47,(dB (an (bc op ws k w))))],[(.var 125 [(LI ws),(LI xs),(i6 k),(i6 w)]),dc,(.var 128 [(aR op),(.fn (.func (c5 op)) [] []),(.fn (.func (c6 op)) [] [])])]⟩
def lr (op : Int) (ws : List Int) (xs : List Int) (k : Int) (w : Int) : St := ⟨[(4,b9),(7,cg),(9,(i6 (bc op ws k w))),(44,(.agg [(aR op),(.fn (.func (c5 op)) [] []),(.fn (.func (c6 op)) [] [])])),(46,(i6 (bc op ws k w))),(47,(dB (an (bc op ws k w))))],[(.var 125 [(LI ws),(LI xs),(i6 k),(i6 w)]),(.var 128 [(aR op),(.fn (.func (c5 op)) [] []),(.fn (.func (c6 op)) [] [])]),(.var 128 [(aR op),(.fn (.func (c5 op)) [] []),(.fn (.func (c6 op)) [] [])])]⟩
def gV (op : Int) (ws : List Int) (xs : List Int) (k : Int) (w : Int) : St := ⟨[(4,b9),(7,cg),(9,(i6 (bc op ws k w))),(44,(.agg [(aR op),(.fn (.func (c5 op)) [] []),(.fn (.func (c6 op)) [] [])])),(45,(i6 (bc op ws k w))),(46,(i6 (bc op ws k w))),(47,(dB (an (bc op ws k w))))],[(.var 125 [(LI ws),(LI xs),(i6 k),(i6 w)]),(.var 128 [(aR op),(.fn (.func (c5 op)) [] []),(.fn (.func (c6 op)) [] [])]),(.var 128 [(aR op),(.fn (.func (c5 op)) [] []),(.fn (.func (c6 op)) [] [])])]⟩
def lu (op : Int) (ws : List Int) (xs : List Int) (k : Int) (w : Int) : St := ⟨[(4,b9),(5,(i6 (bc op ws k w))),(7,cg),(9,(i6 (bc op ws k w))),(44,(.agg [(aR op),(.fn (.func (c5 op)) [] []),(.fn (.func (c6 op)) [] [])])),(45,(i6 (bc op ws k w))),(46,(i6 (bc op ws k w))),(47,(dB (an (bc op ws k w))))],[(.var 125 [(LI ws),(LI xs),(i6 k),(i6 w)]),(.var 128 [(aR op),(.fn (.func (c5 op)) [] []),(.fn (.func (c6 op)) [] [])]),(.var 128 [(aR op),(.fn (.func (c5 op)) [] []),(.fn (.func (c6 op)) [] [])])]⟩
def lv (op : Int) (ws : List Int) (xs : List Int) (k : Int) (w : Int) : St := ⟨[(4,b9),(5,(i6 (bc op ws k w))),(6,(dB (an (bc op ws k w))))],[(.var 125 [(LI ws),(LI xs),(i6 k),(i6 w)]),(.var 128 [(aR op),(.fn (.func (c5 op)) [] []),(.fn (.func (c6 op)) [] [])]),(.var 128 [(aR op),(.fn (.func (c5 op)) [] []),(.fn (.func (c6 op)) [] [])])]⟩
theorem sw (op : Int) (ws xs : List Int) (k w : Int) (hw : ws.length ≤ 9223372036854775807) (h : uH op ws = true) : CC (xR op ws xs k w) := by
 obtain ⟨h1,h2⟩ := tn h
 have hop := qS h
 refine ak.vc (V := TT 4 (CS (op = 2 ∨ op = 3 ∨ op = 4 ∨ op = 5 ∨ op = 6 ∨ op = 7 ∨ op = 8 ∨ op = 9) (CC AA∧TT 1 ((∃ (j : Nat) (e : Int × Value),dT[j]? = some e∧op = e.1∧(∀ e' ∈ dT.take j,op ≠ e'.1)∧sW (D.ofVal e.2) (.agg [(aR op),(.fn (.func (c5 op)) [] []),(.fn (.func (c6 op)) [] [])]))∧TT 18 ((True∧(!decide ((ws.length : Int) = (bo op))) = false)∧TT 2 (CC (Aw ws)∧TT 1 ((!(ws.all an)) = false∧TT 3 (GC (cW op ws xs k w)∧TT 1 ((jE op ws xs k w) = (jE op ws xs k w)∧(((sE (o8 op ws xs k w) (True))∧(sE (o9 op ws xs k w) (True))∧(sE (pb op ws xs k w) (True))∧True)∧((sE (jF op ws xs k w) (True))∧(sE (jG op ws xs k w) (True))∧True)∧((sE (jF op ws xs k w) (True))∧(sE (jH op ws xs k w) (True))∧True)∧((sE (jG op ws xs k w) (True))∧(sE (jH op ws xs k w) (True))∧(sE (pc op ws xs k w) (CC (py (bc op ws k w))))∧True)∧((sE (gF op ws xs k w) (True))∧True)∧((sE (gF op ws xs k w) (True))∧(sE (jI op ws xs k w) (CC (py (bc op ws k w))))∧True)∧((sE (gF op ws xs k w) (True))∧(sE (iP op ws xs k w) (CC (py (bc op ws k w))))∧True)∧((sE (jI op ws xs k w) (True))∧(sE (iP op ws xs k w) (True))∧True)∧((sE (fB op ws xs k w) (CC (py (bc op ws k w))))∧True)∧((sE (fB op ws xs k w) (True))∧(sE (mL op ws xs k w) (True))∧True)∧((sE (fB op ws xs k w) (True))∧True)∧((sE (iQ op ws xs k w) (True))∧True)∧((sE (iQ op ws xs k w) (True))∧True)∧((sE (mM op ws xs k w) (True))∧True)∧((sE (mN op ws xs k w) (True))∧True)∧True∧True)∧TT 3 (((bo op) = (bo op)∧((.fn (.func (c5 op)) [] []) : D) = (.fn (.func (c5 op)) [] [])∧((.fn (.func (c6 op)) [] []) : D) = (.fn (.func (c6 op)) [] [])∧True)∧(bc op ws k w) = (bc op ws k w)∧(an (bc op ws k w)) = (an (bc op ws k w))∧True)))))))) (CC AA∧TT 1 ((∀ e' ∈ dT,op ≠ e'.1)∧TT 8 (CC B1∧TT 1 ((∃ (j : Nat) (e : Int × Value),eF[j]? = some e∧op = e.1∧(∀ e' ∈ eF.take j,op ≠ e'.1)∧sW (D.ofVal e.2) (.agg [(aR op),(.fn (.func (c5 op)) [] []),(.fn (.func (c6 op)) [] [])]))∧TT 15 ((True∧(!decide ((ws.length : Int) = (bo op))) = false)∧TT 2 (CC (Aw ws)∧TT 1 ((!(ws.all an)) = false∧TT 3 (GC (cW op ws xs k w)∧TT 1 ((iR op ws xs k w) = (iR op ws xs k w)∧(((sE (mO op ws xs k w) (True))∧(sE (mP op ws xs k w) (True))∧(sE (mQ op ws xs k w) (True))∧True)∧((sE (iT op ws xs k w) (True))∧(sE (iU op ws xs k w) (True))∧True)∧((sE (iT op ws xs k w) (True))∧(sE (iV op ws xs k w) (True))∧True)∧((sE (iU op ws xs k w) (True))∧(sE (iV op ws xs k w) (True))∧(sE (mR op ws xs k w) (CC (py (bc op ws k w))))∧True)∧((sE (fC op ws xs k w) (True))∧True)∧((sE (fC op ws xs k w) (True))∧(sE (iW op ws xs k w) (CC (py (bc op ws k w))))∧True)∧((sE (fC op ws xs k w) (True))∧(sE (gU op ws xs k w) (CC (py (bc op ws k w))))∧True)∧((sE (iW op ws xs k w) (True))∧(sE (gU op ws xs k w) (True))∧True)∧((sE (e9 op ws xs k w) (CC (py (bc op ws k w))))∧True)∧((sE (e9 op ws xs k w) (True))∧(sE (lr op ws xs k w) (True))∧True)∧((sE (e9 op ws xs k w) (True))∧True)∧((sE (gV op ws xs k w) (True))∧True)∧((sE (gV op ws xs k w) (True))∧True)∧((sE (lu op ws xs k w) (True))∧True)∧((sE (lv op ws xs k w) (True))∧True)∧True∧True)∧TT 3 (((bo op) = (bo op)∧((.fn (.func (c5 op)) [] []) : D) = (.fn (.func (c5 op)) [] [])∧((.fn (.func (c6 op)) [] []) : D) = (.fn (.func (c6 op)) [] [])∧True)∧(bc op ws k w) = (bc op ws k w)∧(an (bc op ws k w)) = (an (bc op ws k w))∧True)))))))))))) (.s 1 (op = 2 ∨ op = 3 ∨ op = 4 ∨ op = 5 ∨ op = 6 ∨ op = 7 ∨ op = 8 ∨ op = 9) (.w 1 [(0,AA.O),(2,.ent (.agg [(aR op),(.fn (.func (c5 op)) [] []),(.fn (.func (c6 op)) [] [])]))] <| .w 4 [(10,.val (dB false)),(13,(Aw ws).O)] <| .u 38 (.w 6 [(3,.callg none false (i6 (bc op ws k w)))] <| .y 7 [(3,(py (bc op ws k w)).O)] [((bm 7 0),(jE op ws xs k w)),((bm 7 1),(o8 op ws xs k w)),((bm 7 2),(o9 op ws xs k w)),((bm 7 4),(pb op ws xs k w)),((bm 7 3),(jF op ws xs k w)),((bm 7 5),(jG op ws xs k w)),((bm 7 6),(jH op ws xs k w)),((bm 7 12),(pc op ws xs k w)),((bm 7 7),(gF op ws xs k w)),((bm 7 13),(jI op ws xs k w)),((bm 7 14),(iP op ws xs k w)),((bm 7 15),(fB op ws xs k w)),((bm 7 29),(mL op ws xs k w)),((bm 7 31),(iQ op ws xs k w)),((bm 7 63),(mM op ws xs k w)),((bm 7 127),(mN op ws xs k w))] <| .e)) (.w 1 [(0,AA.O),(2,.idx none)] <| .w 3 [(0,B1.O),(2,.ent (.agg [(aR op),(.fn (.func (c5 op)) [] []),(.fn (.func (c6 op)) [] [])]))] <| .w 4 [(10,.val (dB false)),(13,(Aw ws).O)] <| .u 38 (.w 6 [(3,.callg none false (i6 (bc op ws k w)))] <| .y 7 [(3,(py (bc op ws k w)).O)] [((bm 7 0),(iR op ws xs k w)),((bm 7 1),(mO op ws xs k w)),((bm 7 2),(mP op ws xs k w)),((bm 7 4),(mQ op ws xs k w)),((bm 7 3),(iT op ws xs k w)),((bm 7 5),(iU op ws xs k w)),((bm 7 6),(iV op ws xs k w)),((bm 7 12),(mR op ws xs k w)),((bm 7 7),(fC op ws xs k w)),((bm 7 13),(iW op ws xs k w)),((bm 7 14),(gU op ws xs k w)),((bm 7 15),(e9 op ws xs k w)),((bm 7 29),(lr op ws xs k w)),((bm 7 31),(gV op ws xs k w)),((bm 7 63),(lu op ws xs k w)),((bm 7 127),(lv op ws xs k w))] <| .e))) Try.func53 rfl rfl rfl (by kernel_rfl) ?_
 refine tt ⟨fun hs0 => ?_,fun hs0 => ?_⟩
 · have hS := hs0
   exact ⟨kq,tt ⟨(qU hS),tt ⟨(nF h1),tt ⟨(gD ws hw),tt ⟨(z5 h2),tt ⟨(Bb op ws xs k w h),tt ⟨rfl,⟨⟨⟨⟨rfl,oK,oK⟩,⟨rfl,oK,oK⟩,⟨rfl,oK,oK⟩,oK⟩,⟨⟨rfl,oK,oK⟩,⟨rfl,oK,oK⟩,oK⟩,⟨⟨rfl,oK,oK⟩,⟨rfl,oK,oK⟩,oK⟩,⟨⟨rfl,oK,oK⟩,⟨rfl,oK,oK⟩,⟨rfl,(cM (bc op ws k w)),oK⟩,oK⟩,⟨⟨rfl,oK,oK⟩,oK⟩,⟨⟨rfl,oK,oK⟩,⟨rfl,(cM (bc op ws k w)),oK⟩,oK⟩,⟨⟨rfl,oK,oK⟩,⟨rfl,(cM (bc op ws k w)),oK⟩,oK⟩,⟨⟨rfl,oK,oK⟩,⟨rfl,oK,oK⟩,oK⟩,⟨⟨rfl,(cM (bc op ws k w)),oK⟩,oK⟩,⟨⟨rfl,oK,oK⟩,⟨rfl,oK,oK⟩,oK⟩,⟨⟨rfl,oK,oK⟩,oK⟩,⟨⟨rfl,oK,oK⟩,oK⟩,⟨⟨rfl,oK,oK⟩,oK⟩,⟨⟨rfl,oK,oK⟩,oK⟩,⟨⟨rfl,oK,oK⟩,oK⟩,oK,oK⟩,tt ⟨⟨rfl,rfl,rfl,oK⟩,rfl,rfl,oK⟩⟩⟩⟩⟩⟩⟩⟩⟩
 · have hS := hs0
   exact ⟨kq,tt ⟨(qV hS),tt ⟨ou,tt ⟨(qW (by omega)),tt ⟨(nF h1),tt ⟨(gD ws hw),tt ⟨(z5 h2),tt ⟨(Bb op ws xs k w h),tt ⟨rfl,⟨⟨⟨⟨rfl,oK,oK⟩,⟨rfl,oK,oK⟩,⟨rfl,oK,oK⟩,oK⟩,⟨⟨rfl,oK,oK⟩,⟨rfl,oK,oK⟩,oK⟩,⟨⟨rfl,oK,oK⟩,⟨rfl,oK,oK⟩,oK⟩,⟨⟨rfl,oK,oK⟩,⟨rfl,oK,oK⟩,⟨rfl,(cM (bc op ws k w)),oK⟩,oK⟩,⟨⟨rfl,oK,oK⟩,oK⟩,⟨⟨rfl,oK,oK⟩,⟨rfl,(cM (bc op ws k w)),oK⟩,oK⟩,⟨⟨rfl,oK,oK⟩,⟨rfl,(cM (bc op ws k w)),oK⟩,oK⟩,⟨⟨rfl,oK,oK⟩,⟨rfl,oK,oK⟩,oK⟩,⟨⟨rfl,(cM (bc op ws k w)),oK⟩,oK⟩,⟨⟨rfl,oK,oK⟩,⟨rfl,oK,oK⟩,oK⟩,⟨⟨rfl,oK,oK⟩,oK⟩,⟨⟨rfl,oK,oK⟩,oK⟩,⟨⟨rfl,oK,oK⟩,oK⟩,⟨⟨rfl,oK,oK⟩,oK⟩,⟨⟨rfl,oK,oK⟩,oK⟩,oK,oK⟩,tt ⟨⟨rfl,rfl,rfl,oK⟩,rfl,rfl,oK⟩⟩⟩⟩⟩⟩⟩⟩⟩⟩⟩
abbrev xS (op : Int) (ws xs : List Int) (k w : Int) : Ct := ⟨53,[(i6 op),(.agg [(LI ws),(LI xs),(i6 k),(i6 w)])],true,(.tup [(.agg [(i6 0),(.v .nilf),(.v .nilf)]),(i6 0),(dB false)])⟩
theorem sx (op : Int) (ws xs : List Int) (k w : Int) (hw : ws.length ≤ 9223372036854775807) (h : uH op ws = false) : CC (xS op ws xs k w) := by
 refine ak.vc (V := TT 4 (CS (op = 2 ∨ op = 3 ∨ op = 4 ∨ op = 5 ∨ op = 6 ∨ op = 7 ∨ op = 8 ∨ op = 9) (CC AA∧TT 1 ((∃ (j : Nat) (e : Int × Value),dT[j]? = some e∧op = e.1∧(∀ e' ∈ dT.take j,op ≠ e'.1)∧sW (D.ofVal e.2) (.agg [(aR op),(.fn (.func (c5 op)) [] []),(.fn (.func (c6 op)) [] [])]))∧TT 8 (CS ((ws.length : Int) = (bo op)) (TT 10 ((True∧(!decide ((ws.length : Int) = (bo op))) = false)∧TT 2 (CC (Aw ws)∧TT 1 ((!(ws.all an)) = true∧TT 7 (((0 : Int) = 0∧True∧True∧True)∧(0 : Int) = 0∧false = false∧True))))) (TT 10 ((True∧(!decide ((ws.length : Int) = (bo op))) = true)∧TT 11 (((0 : Int) = 0∧True∧True∧True)∧(0 : Int) = 0∧false = false∧True)))))) (CC AA∧TT 1 ((∀ e' ∈ dT,op ≠ e'.1)∧TT 8 (CS (op = 1 ∨ op = 10 ∨ op = 11 ∨ op = 12 ∨ op = 13) (CC B1∧TT 1 ((∃ (j : Nat) (e : Int × Value),eF[j]? = some e∧op = e.1∧(∀ e' ∈ eF.take j,op ≠ e'.1)∧sW (D.ofVal e.2) (.agg [(aR op),(.fn (.func (c5 op)) [] []),(.fn (.func (c6 op)) [] [])]))∧TT 5 (CS ((ws.length : Int) = (bo op)) (TT 10 ((True∧(!decide ((ws.length : Int) = (bo op))) = false)∧TT 2 (CC (Aw ws)∧TT 1 ((!(ws.all an)) = true∧TT 7 (((0 : Int) = 0∧True∧True∧True)∧(0 : Int) = 0∧false = false∧True))))) (TT 10 ((True∧(!decide ((ws.length : Int) = (bo op))) = true)∧TT 11 (((0 : Int) = 0∧True∧True∧True)∧(0 : Int) = 0∧false = false∧True)))))) (CC B1∧TT 1 ((∀ e' ∈ eF,op ≠ e'.1)∧TT 27 (((0 : Int) = 0∧True∧True∧True)∧(0 : Int) = 0∧false = false∧True)))))))) (.s 1 (op = 2 ∨ op = 3 ∨ op = 4 ∨ op = 5 ∨ op = 6 ∨ op = 7 ∨ op = 8 ∨ op = 9) (.w 1 [(0,AA.O),(2,.ent (.agg [(aR op),(.fn (.func (c5 op)) [] []),(.fn (.func (c6 op)) [] [])]))] <| .s 4 ((ws.length : Int) = (bo op)) (.w 4 [(10,.val (dB false)),(13,(Aw ws).O)] <| .t 38 (.e)) (.w 4 [(10,.val (dB true))] <| .e)) (.w 1 [(0,AA.O),(2,.idx none)] <| .s 3 (op = 1 ∨ op = 10 ∨ op = 11 ∨ op = 12 ∨ op = 13) (.w 3 [(0,B1.O),(2,.ent (.agg [(aR op),(.fn (.func (c5 op)) [] []),(.fn (.func (c6 op)) [] [])]))] <| .s 4 ((ws.length : Int) = (bo op)) (.w 4 [(10,.val (dB false)),(13,(Aw ws).O)] <| .t 38 (.e)) (.w 4 [(10,.val (dB true))] <| .e)) (.w 3 [(0,B1.O),(2,.idx none)] <| .e))) Try.func53 rfl rfl rfl (by kernel_rfl) ?_
 refine tt ⟨fun hs0 => ?_,fun hs0 => ?_⟩
 · have hS := hs0
   refine ⟨kq,tt ⟨(qU hS),tt ⟨fun hs1 => ?_,fun hs1 => ?_⟩⟩⟩
   · exact tt ⟨(nF hs1),tt ⟨(gD ws hw),tt ⟨(Du (by rcases yM h with h5 | ⟨_,h5⟩; exact absurd (by assumption) h5; rw [h5]; simp)),tt ⟨⟨rfl,oK,oK,oK⟩,rfl,rfl,oK⟩⟩⟩⟩
   · exact tt ⟨(nT hs1),tt ⟨⟨rfl,oK,oK,oK⟩,rfl,rfl,oK⟩⟩
 · have hS := hs0
   refine ⟨kq,tt ⟨(qV hS),tt ⟨fun hs2 => ?_,fun hs2 => ?_⟩⟩⟩
   · have hO := hs2
     refine ⟨ou,tt ⟨(qW hO),tt ⟨fun hs3 => ?_,fun hs3 => ?_⟩⟩⟩
     · exact tt ⟨(nF hs3),tt ⟨(gD ws hw),tt ⟨(Du (by rcases yM h with h5 | ⟨_,h5⟩; exact absurd (by assumption) h5; rw [h5]; simp)),tt ⟨⟨rfl,oK,oK,oK⟩,rfl,rfl,oK⟩⟩⟩⟩
     · exact tt ⟨(nT hs3),tt ⟨⟨rfl,oK,oK,oK⟩,rfl,rfl,oK⟩⟩
   · have hO := hs2
     exact ⟨ou,tt ⟨(vZ hO),tt ⟨⟨rfl,oK,oK,oK⟩,rfl,rfl,oK⟩⟩⟩
theorem lO {op : Int} {ws : List Int} {k w : Int} (h : uH op ws = true) (h2 : an (bc op ws k w) = true) : kS op ws k w = true := by rw [vO,h,h2]; rfl
theorem b3 {op : Int} {ws : List Int} {k w : Int} (h : ¬uH op ws = true) : kS op ws k w = false := by rw [vO,Bool.eq_false_iff.2 h]; rfl
theorem b4 {op : Int} {ws : List Int} {k w : Int} (h2 : ¬an (bc op ws k w) = true) : kS op ws k w = false := by rw [vO,Bool.eq_false_iff.2 h2,Bool.and_false]
theorem ji {op : Int} {ws : List Int} {k w : Int} (h : kS op ws k w = false) : 0 = cu op ws k w∧1 = jx op ws k w := by unfold cu jx; rw [h]; exact ⟨rfl,rfl⟩
theorem ow {op : Int} {ws : List Int} {k w : Int} (h : kS op ws k w = true) : bc op ws k w = cu op ws k w∧0 = jx op ws k w := by unfold cu jx; rw [h]; exact ⟨rfl,rfl⟩
abbrev C3 (op : Int) (ws : List Int) (k w : Int) : Ct := ⟨52,[(i6 op),(LI ws),(.agg [(i6 k),(i6 w)])],false,(.tup [(i6 (cu op ws k w)),(i6 (jx op ws k w))])⟩
theorem uU (op : Int) (ws : List Int) (k w : Int) (hw : ws.length ≤ 9223372036854775807) : CC (C3 op ws k w) := by
 refine ak.vc (V := TT 3 (CS (uH op ws = true) (TT 2 (((0 ≤ (0 : Int)∧0 < (2 : Int))∧True)∧TT 1 (((0 ≤ (1 : Int)∧1 < (2 : Int))∧True)∧TT 2 ((rh [] [(i6 op),(.agg [(LI ws),.nils,(i6 k),(i6 w)])] (xR op ws [] k w).as∧CC (xR op ws [] k w))∧TT 10 (CB (!(an (bc op ws k w))) (TT 4 (((0 : Int) = (cu op ws k w)∧(1 : Int) = (jx op ws k w)∧True)∧(True∧True∧True))) (TT 5 (((bc op ws k w) = (cu op ws k w)∧(0 : Int) = (jx op ws k w)∧True)∧(True∧True∧True)))))))) (TT 2 (((0 ≤ (0 : Int)∧0 < (2 : Int))∧True)∧TT 1 (((0 ≤ (1 : Int)∧1 < (2 : Int))∧True)∧TT 2 ((rh [] [(i6 op),(.agg [(LI ws),.nils,(i6 k),(i6 w)])] (xS op ws [] k w).as∧CC (xS op ws [] k w))∧TT 14 (((0 : Int) = (cu op ws k w)∧(1 : Int) = (jx op ws k w)∧True)∧(True∧True∧True)))))))) (.s 1 (uH op ws = true) (.w 1 [(7,(xR op ws [] k w).O')] <| .b 24 (.e) (.e)) (.w 1 [(7,(xS op ws [] k w).O')] <| .e)) Try.func52 rfl rfl rfl (by kernel_rfl) ?_
 refine tt ⟨fun hs0 => ?_,fun hs0 => ?_⟩
 · have hb := hs0
   refine tt ⟨⟨by omega,oK⟩,tt ⟨⟨by omega,oK⟩,tt ⟨⟨⟨rfl,⟨rfl,rfl,rfl,rfl,oK⟩,oK⟩,(sw op ws [] k w hw hb)⟩,tt ⟨fun hc24 => ?_,fun hc24 => ?_⟩⟩⟩⟩
   · refine tt ⟨⟨?_,?_,oK⟩,⟨oK,oK,oK⟩⟩
     all_goals (first | exact (ji (b3 hb)).1 | exact (ji (b3 hb)).2 | exact (ji (b4 (by simpa using hc24))).1 | exact (ji (b4 (by simpa using hc24))).2 | exact (ow (lO hb (by simpa using hc24))).1 | exact (ow (lO hb (by simpa using hc24))).2)
   · refine tt ⟨⟨?_,?_,oK⟩,⟨oK,oK,oK⟩⟩
     all_goals (first | exact (ji (b3 hb)).1 | exact (ji (b3 hb)).2 | exact (ji (b4 (by simpa using hc24))).1 | exact (ji (b4 (by simpa using hc24))).2 | exact (ow (lO hb (by simpa using hc24))).1 | exact (ow (lO hb (by simpa using hc24))).2)
 · have hb := hs0
   refine tt ⟨⟨by omega,oK⟩,tt ⟨⟨by omega,oK⟩,tt ⟨⟨⟨rfl,⟨rfl,rfl,rfl,rfl,oK⟩,oK⟩,(sx op ws [] k w hw (Bool.eq_false_iff.2 hb))⟩,tt ⟨⟨?_,?_,oK⟩,⟨oK,oK,oK⟩⟩⟩⟩⟩
   all_goals (first | exact (ji (b3 hb)).1 | exact (ji (b3 hb)).2 | exact (ji (b4 (by simpa using hc24))).1 | exact (ji (b4 (by simpa using hc24))).2 | exact (ow (lO hb (by simpa using hc24))).1 | exact (ow (lO hb (by simpa using hc24))).2)
abbrev DD (op : Int) (ws xs nums : List Int) : Ct := ⟨31,[(i6 op),(LI ws),(LI xs),(LI nums)],false,(.tup [(i6 (cX op ws xs nums)),(i6 (fl op ws xs nums))])⟩
abbrev mS (op : Int) (ws : List Int) (xs : List Int) (nums : List Int) : Lp (Nat) := lm [1,10,11,44,45,46] 11 (fun (i : Nat) => ⟨[(1,(LI ws)),(10,(.ptr 9 0 0 0)),(11,(.ptr 10 0 0 0)),(44,(LI xs)),(45,(i6 (xs.length : Int))),(46,(i6 (i : Int)))],[.dead,.dead,.dead,.dead,.dead,.dead,.dead,.dead,.dead,(.var 125 [(LI ws),(LI xs),(i6 (nums.getD 0 0)),(i6 (nums.getD 1 0))]),(.var 128 [(aR op),(.fn (.func (c5 op)) [] []),(.fn (.func (c6 op)) [] [])])]⟩) (fun (i : Nat) => i ≤ xs.length∧∀ j,j < i → 0 ≤ xs.getD j 0∧xs.getD j 0 ≤ af (ws.getD j 0)) (fun (i : Nat) => xs.length - i)
theorem zm (op : Int) (ws xs nums : List Int) (hwl : ws.length ≤ 9223372036854775807) (hxl0 : xs.length ≤ 9223372036854775807) : CC (DD op ws xs nums) := by
 refine ak.vc (V := TT 2 (CS ((nums.length : Int) = 2) (TT 3 ((True∧(!decide ((nums.length : Int) = 2)) = false)∧TT 6 (CN ((xs.length : Int) = (ws.length : Int)) (TT 4 (((0 : Int) = (cX op ws xs nums)∧(1 : Int) = (fl op ws xs nums)∧True)∧(True∧True∧True))) (TT 3 (IX 0 nums.length∧TT 2 (IX 1 nums.length∧TT 4 (CS (uH op ws = true) (TT 2 (CC (xR op ws xs (nums.getD 0 0) (nums.getD 1 0))∧TT 10 (CB (!(an (bc op ws (nums.getD 0 0) (nums.getD 1 0)))) (TT 4 (((0 : Int) = (cX op ws xs nums)∧(1 : Int) = (fl op ws xs nums)∧True)∧(True∧True∧True))) (TT 3 (GO (mS op ws xs nums) 0 (∀ i,(mS op ws xs nums).inv i → TT 1 (CD ((i : Int) < (xs.length : Int)) (TT 1 (IX (i : Int) xs.length∧TT 3 (CS ((xs.getD i 0) < 0) (TT 2 ((True∧(decide ((xs.getD i 0) < 0)) = true)∧TT 12 (((0 : Int) = (cX op ws xs nums)∧(1 : Int) = (fl op ws xs nums)∧True)∧(True∧True∧True)))) (TT 2 ((True∧(decide ((xs.getD i 0) < 0)) = false)∧TT 3 (IX (i : Int) ws.length∧TT 1 (CC (xN (ws.getD i 0))∧TT 2 (CD ((xs.getD i 0) > (af (ws.getD i 0))) (TT 4 (((0 : Int) = (cX op ws xs nums)∧(1 : Int) = (fl op ws xs nums)∧True)∧(True∧True∧True))) (W6 ((i + 1 : Nat) : Int)∧TT 1 (AG (mS op ws xs nums) i (i + 1))))))))))) (TT 3 (GC (cV op ws xs (nums.getD 0 0) (nums.getD 1 0))∧TT 4 (((kT op ws xs (nums.getD 0 0) (nums.getD 1 0)) = (cX op ws xs nums)∧(0 : Int) = (fl op ws xs nums)∧True)∧(True∧True∧True))))))))))) (TT 2 (CC (xS op ws xs (nums.getD 0 0) (nums.getD 1 0))∧TT 14 (((0 : Int) = (cX op ws xs nums)∧(1 : Int) = (fl op ws xs nums)∧True)∧(True∧True∧True))))))))))) (TT 3 ((True∧(!decide ((nums.length : Int) = 2)) = true)∧TT 10 (((0 : Int) = (cX op ws xs nums)∧(1 : Int) = (fl op ws xs nums)∧True)∧(True∧True∧True)))))) (.s 1 ((nums.length : Int) = 2) (.w 1 [(3,.val (dB false))] <| .b 25 (.e) (.s 4 (uH op ws = true) (.w 4 [(2,(xR op ws xs (nums.getD 0 0) (nums.getD 1 0)).O)] <| .b 43 (.e) (.l (mS op ws xs nums) 0 (fun i => .b 47 (.s 10 ((xs.getD i 0) < 0) (.w 10 [(2,.val (dB true))] <| .e) (.w 10 [(2,.val (dB false)),(8,(xN (ws.getD i 0)).O)] <| .b 61 (.e) (.w 12 [(0,.val (i6 ((i + 1 : Nat) : Int)))] <| .e))) (.w 13 [(3,.callg none false (i6 (kT op ws xs (nums.getD 0 0) (nums.getD 1 0))))] <| .e)))) (.w 4 [(2,(xS op ws xs (nums.getD 0 0) (nums.getD 1 0)).O)] <| .e))) (.w 1 [(3,.val (dB true))] <| .e)) Try.func31 rfl rfl rfl (by kernel_rfl) ?_
 refine tt ⟨fun hs0 => ?_,fun hs0 => ?_⟩
 · refine tt ⟨(nF hs0),tt (cn (fun hc25 => ?_) (fun hc25 => ?_))⟩
   · refine tt ⟨⟨?_,?_,oK⟩,⟨oK,oK,oK⟩⟩
     all_goals (first | exact (aQ (my (by omega))).1.symm | exact (aQ (my (by omega))).2.symm | exact (aQ (mz (by omega))).1.symm | exact (aQ (mz (by omega))).2.symm | exact (aQ (bL (b3 hb))).1.symm | exact (aQ (bL (b3 hb))).2.symm | exact (aQ (bL (b4 (by simpa using hc43)))).1.symm | exact (aQ (bL (b4 (by simpa using hc43)))).2.symm | exact (aQ (gw (i := i) (by omega) (by omega))).1.symm | exact (aQ (gw (i := i) (by omega) (by omega))).2.symm | exact (dU hl2 hxl hok hin).1.symm | exact (dU hl2 hxl hok hin).2.symm)
   · refine tt ⟨ix,tt ⟨ix,tt ⟨fun hs1 => ?_,fun hs1 => ?_⟩⟩⟩
     · have hb := hs1
       refine tt ⟨(sw op ws xs (nums.getD 0 0) (nums.getD 1 0) hwl hb),tt ⟨fun hc43 => ?_,fun hc43 => ?_⟩⟩
       · refine tt ⟨⟨?_,?_,oK⟩,⟨oK,oK,oK⟩⟩
         all_goals (first | exact (aQ (my (by omega))).1.symm | exact (aQ (my (by omega))).2.symm | exact (aQ (mz (by omega))).1.symm | exact (aQ (mz (by omega))).2.symm | exact (aQ (bL (b3 hb))).1.symm | exact (aQ (bL (b3 hb))).2.symm | exact (aQ (bL (b4 (by simpa using hc43)))).1.symm | exact (aQ (bL (b4 (by simpa using hc43)))).2.symm | exact (aQ (gw (i := i) (by omega) (by omega))).1.symm | exact (aQ (gw (i := i) (by omega) (by omega))).2.symm | exact (dU hl2 hxl hok hin).1.symm | exact (dU hl2 hxl hok hin).2.symm)
       · refine tt ?_
         have hok := lO hb (by simpa using hc43)
         have hl2 : nums.length = 2 := by omega
         have hxl : xs.length = ws.length := by omega
         refine ⟨rfl,⟨by omega,fun j hj => by omega⟩,?_⟩
         intro i hinv
         obtain ⟨hi,hall⟩ := hinv
         refine tt (cd (fun hc47 => ?_) (fun hc47 => ?_))
         · refine tt ⟨ix,tt ⟨fun hs2 => ?_,fun hs2 => ?_⟩⟩
           · refine tt ⟨(vT hs2),tt ⟨⟨?_,?_,oK⟩,⟨oK,oK,oK⟩⟩⟩
             all_goals (first | exact (aQ (my (by omega))).1.symm | exact (aQ (my (by omega))).2.symm | exact (aQ (mz (by omega))).1.symm | exact (aQ (mz (by omega))).2.symm | exact (aQ (bL (b3 hb))).1.symm | exact (aQ (bL (b3 hb))).2.symm | exact (aQ (bL (b4 (by simpa using hc43)))).1.symm | exact (aQ (bL (b4 (by simpa using hc43)))).2.symm | exact (aQ (gw (i := i) (by omega) (by omega))).1.symm | exact (aQ (gw (i := i) (by omega) (by omega))).2.symm | exact (dU hl2 hxl hok hin).1.symm | exact (dU hl2 hxl hok hin).2.symm)
           · refine tt ⟨(vF hs2),tt ⟨ix,tt ⟨(ko (ws.getD i 0)),tt (cd (fun hc61 => ?_) (fun hc61 => ?_))⟩⟩⟩
             · refine tt ⟨⟨?_,?_,oK⟩,⟨oK,oK,oK⟩⟩
               all_goals (first | exact (aQ (my (by omega))).1.symm | exact (aQ (my (by omega))).2.symm | exact (aQ (mz (by omega))).1.symm | exact (aQ (mz (by omega))).2.symm | exact (aQ (bL (b3 hb))).1.symm | exact (aQ (bL (b3 hb))).2.symm | exact (aQ (bL (b4 (by simpa using hc43)))).1.symm | exact (aQ (bL (b4 (by simpa using hc43)))).2.symm | exact (aQ (gw (i := i) (by omega) (by omega))).1.symm | exact (aQ (gw (i := i) (by omega) (by omega))).2.symm | exact (dU hl2 hxl hok hin).1.symm | exact (dU hl2 hxl hok hin).2.symm)
             · refine ⟨w6,tt ⟨(i + 1),rfl,?_,(?_ : xs.length - (i + 1) < xs.length - i)⟩⟩
               · exact ⟨by omega,eB hall ⟨by omega,by omega⟩⟩
               · omega
         · have hin : xE ws xs = true := yL (fun j hj => hall j (by omega))
           refine tt ⟨(C2 op ws xs _ _ hok hxl hin),tt ⟨⟨?_,?_,oK⟩,⟨oK,oK,oK⟩⟩⟩
           all_goals (first | exact (aQ (my (by omega))).1.symm | exact (aQ (my (by omega))).2.symm | exact (aQ (mz (by omega))).1.symm | exact (aQ (mz (by omega))).2.symm | exact (aQ (bL (b3 hb))).1.symm | exact (aQ (bL (b3 hb))).2.symm | exact (aQ (bL (b4 (by simpa using hc43)))).1.symm | exact (aQ (bL (b4 (by simpa using hc43)))).2.symm | exact (aQ (gw (i := i) (by omega) (by omega))).1.symm | exact (aQ (gw (i := i) (by omega) (by omega))).2.symm | exact (dU hl2 hxl hok hin).1.symm | exact (dU hl2 hxl hok hin).2.symm)
     · have hb := hs1
       refine tt ⟨(sx op ws xs (nums.getD 0 0) (nums.getD 1 0) hwl (Bool.eq_false_iff.2 hb)),tt ⟨⟨?_,?_,oK⟩,⟨oK,oK,oK⟩⟩⟩
       all_goals (first | exact (aQ (my (by omega))).1.symm | exact (aQ (my (by omega))).2.symm | exact (aQ (mz (by omega))).1.symm | exact (aQ (mz (by omega))).2.symm | exact (aQ (bL (b3 hb))).1.symm | exact (aQ (bL (b3 hb))).2.symm | exact (aQ (bL (b4 (by simpa using hc43)))).1.symm | exact (aQ (bL (b4 (by simpa using hc43)))).2.symm | exact (aQ (gw (i := i) (by omega) (by omega))).1.symm | exact (aQ (gw (i := i) (by omega) (by omega))).2.symm | exact (dU hl2 hxl hok hin).1.symm | exact (dU hl2 hxl hok hin).2.symm)
 · refine tt ⟨(nT hs0),tt ⟨⟨?_,?_,oK⟩,⟨oK,oK,oK⟩⟩⟩
   all_goals (first | exact (aQ (my (by omega))).1.symm | exact (aQ (my (by omega))).2.symm | exact (aQ (mz (by omega))).1.symm | exact (aQ (mz (by omega))).2.symm | exact (aQ (bL (b3 hb))).1.symm | exact (aQ (bL (b3 hb))).2.symm | exact (aQ (bL (b4 (by simpa using hc43)))).1.symm | exact (aQ (bL (b4 (by simpa using hc43)))).2.symm | exact (aQ (gw (i := i) (by omega) (by omega))).1.symm | exact (aQ (gw (i := i) (by omega) (by omega))).2.symm | exact (dU hl2 hxl hok hin).1.symm | exact (dU hl2 hxl hok hin).2.symm)
end Go.Proofs.Ytgfbfajaaaegjaa
