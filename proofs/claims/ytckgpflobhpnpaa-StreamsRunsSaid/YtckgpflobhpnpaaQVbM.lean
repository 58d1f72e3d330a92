/-
  Package bits: the tables of operators; Width, Apply.
-/
import Derived.Test.YtckgpflobhpnpaaQVbB
namespace Go.Proofs.Ytckgpflobhpnpaa
open Go.RowKit
set_option linter.unusedVariables false
set_option linter.unusedSimpArgs false
abbrev dJ : aq := (.var 176 [(i6 0),(.v .nilf),(.v .nilf)])
abbrev aV (op : Int) : D := (i6 (bE op))
abbrev cm : D := (.ptr 1 0 0 0)
abbrev cA : D := (.ptr 2 0 0 0)
set_option maxRecDepth 100000
def eK : List (Int × Value) := [(2,.agg #[.int .i64 1,.func (.func 84) #[] #[],.func (.func 85) #[] #[]]),(3,.agg #[.int .i64 2,.func (.func 87) #[] #[],.func (.func 88) #[] #[]]),(4,.agg #[.int .i64 2,.func (.func 87) #[] #[],.func (.func 89) #[] #[]]),(5,.agg #[.int .i64 2,.func (.func 87) #[] #[],.func (.func 90) #[] #[]]),(6,.agg #[.int .i64 2,.func (.func 87) #[] #[],.func (.func 91) #[] #[]]),(7,.agg #[.int .i64 2,.func (.func 87) #[] #[],.func (.func 92) #[] #[]]),(8,.agg #[.int .i64 2,.func (.func 93) #[] #[],.func (.func 94) #[] #[]]),(9,.agg #[.int .i64 2,.func (.func 93) #[] #[],.func (.func 96) #[] #[]])]
set_option maxHeartbeats 800000 in
theorem xH (w : World) : Calls Try.prog 80 #[] w (fun e w' => ∃ arr : Array MapEntry,e = .returned (.map (some w.heap.size))∧w' = w.alloc (.map arr 8)∧arr.toList.map (fun e => (e.key,e.val)) = eK.map (fun e => (Value.int .i64 e.1,e.2))) := by
  go_enter Try.func80,Try.ntmps80
  go_wp2_with (first | (rw [sA]) | (rw [uK Try.underlying181 Try.underlying3 (by rfl)]))
  go_ret
  exact ⟨_,rfl,rfl,rfl⟩
abbrev H9 : Ct := ⟨80,[],false,.v (.mp eK)⟩
theorem nq : CC H9 := ai.of_map xH
def fm : List (Int × Value) := [(1,.agg #[.int .i64 0,.func (.func 97) #[] #[],.func (.func 98) #[] #[]]),(10,.agg #[.int .i64 3,.func (.func 99) #[] #[],.func (.func 100) #[] #[]]),(11,.agg #[.int .i64 2,.func (.func 101) #[] #[],.func (.func 102) #[] #[]]),(12,.agg #[.int .i64 1,.func (.func 103) #[] #[],.func (.func 104) #[] #[]]),(13,.agg #[.int .i64 1,.func (.func 105) #[] #[],.func (.func 106) #[] #[]])]
set_option maxHeartbeats 800000 in
theorem xI (w : World) : Calls Try.prog 81 #[] w (fun e w' => ∃ arr : Array MapEntry,e = .returned (.map (some w.heap.size))∧w' = w.alloc (.map arr 5)∧arr.toList.map (fun e => (e.key,e.val)) = fm.map (fun e => (Value.int .i64 e.1,e.2))) := by
  go_enter Try.func81,Try.ntmps81
  go_wp2_with (first | (rw [sA]) | (rw [uK Try.underlying181 Try.underlying3 (by rfl)]))
  go_ret
  exact ⟨_,rfl,rfl,rfl⟩
abbrev Ka : Ct := ⟨81,[],false,.v (.mp fm)⟩
theorem rQ : CC Ka := ai.of_map xI
def dC (op : Int) : Nat :=
  if op = 1 then 97 else
  if op = 2 then 84 else
  if op = 3 then 87 else
  if op = 4 then 87 else
  if op = 5 then 87 else
  if op = 6 then 87 else
  if op = 7 then 87 else
  if op = 8 then 93 else
  if op = 9 then 93 else
  if op = 10 then 99 else
  if op = 11 then 101 else
  if op = 12 then 103 else
  if op = 13 then 105 else 0
def dD (op : Int) : Nat :=
  if op = 1 then 98 else
  if op = 2 then 85 else
  if op = 3 then 88 else
  if op = 4 then 89 else
  if op = 5 then 90 else
  if op = 6 then 91 else
  if op = 7 then 92 else
  if op = 8 then 94 else
  if op = 9 then 96 else
  if op = 10 then 100 else
  if op = 11 then 102 else
  if op = 12 then 104 else
  if op = 13 then 106 else 0
abbrev cW (op : Int) (ws xs : List Int) (k w : Int) : Ct := ⟨dC op,[(.agg [(LI ws),(LI xs),(i6 k),(i6 w)])],false,i6 (bh op ws k w)⟩
abbrev cV (op : Int) (ws xs : List Int) (k w : Int) : Ct := ⟨dD op,[(.agg [(LI ws),(LI xs),(i6 k),(i6 w)])],false,i6 (ot op ws xs k w)⟩
theorem uM {op : Int} {ws : List Int} (h : zg op ws = true) : op = 1 ∨ op = 2 ∨ op = 3 ∨ op = 4 ∨ op = 5 ∨ op = 6 ∨ op = 7 ∨ op = 8 ∨ op = 9 ∨ op = 10 ∨ op = 11 ∨ op = 12 ∨ op = 13 := by
  have h1 := (xG h).1
  by_cases hr : op < 1 ∨ 13 < op
  · have : bE op = -1 := by unfold bE; rw [if_neg (by omega),if_neg (by omega),if_neg (by omega),if_neg (by omega)]
    omega
  · omega
theorem Jj (op : Int) (ws xs : List Int) (k w : Int) (h : zg op ws = true) : GC (cW op ws xs k w) := by
  obtain ⟨h1,hf⟩ := xG h
  rcases uM h with rfl | rfl | rfl | rfl | rfl | rfl | rfl | rfl | rfl | rfl | rfl | rfl | rfl
  · (have hl : (ws.length : Int) = 0 := h1); exact ⟨by kernel_rfl,DX ws xs k w (by omega) hf⟩
  · (have hl : (ws.length : Int) = 1 := h1); exact ⟨by kernel_rfl,FC ws xs k w (by omega) hf⟩
  · (have hl : (ws.length : Int) = 2 := h1); exact ⟨by kernel_rfl,jP ws xs k w (by omega) hf⟩
  · (have hl : (ws.length : Int) = 2 := h1); exact ⟨by kernel_rfl,jP ws xs k w (by omega) hf⟩
  · (have hl : (ws.length : Int) = 2 := h1); exact ⟨by kernel_rfl,jP ws xs k w (by omega) hf⟩
  · (have hl : (ws.length : Int) = 2 := h1); exact ⟨by kernel_rfl,jP ws xs k w (by omega) hf⟩
  · (have hl : (ws.length : Int) = 2 := h1); exact ⟨by kernel_rfl,jP ws xs k w (by omega) hf⟩
  · (have hl : (ws.length : Int) = 2 := h1); exact ⟨by kernel_rfl,FD ws xs k w (by omega) hf⟩
  · (have hl : (ws.length : Int) = 2 := h1); exact ⟨by kernel_rfl,FD ws xs k w (by omega) hf⟩
  · (have hl : (ws.length : Int) = 3 := h1); exact ⟨by kernel_rfl,H6 ws xs k w (by omega) hf⟩
  · (have hl : (ws.length : Int) = 2 := h1); exact ⟨by kernel_rfl,H7 ws xs k w (by omega) hf⟩
  · (have hl : (ws.length : Int) = 1 := h1); exact ⟨by kernel_rfl,DY ws xs k w (by omega) hf⟩
  · (have hl : (ws.length : Int) = 1 := h1); exact ⟨by kernel_rfl,H8 ws xs k w (by omega) hf⟩
theorem LK (op : Int) (ws xs : List Int) (k w : Int) (h : oq op ws k w = true) (hx : xs.length = ws.length) (hin : DV ws xs = true) : GC (cV op ws xs k w) := by
  obtain ⟨h1,hf,h3⟩ := rP h
  have hb : zg op ws = true := by unfold zg; rw [decide_eq_true h1,hf]; rfl
  rcases uM hb with rfl | rfl | rfl | rfl | rfl | rfl | rfl | rfl | rfl | rfl | rfl | rfl | rfl
  · (have hl : (ws.length : Int) = 0 := h1); exact ⟨by kernel_rfl,FE ws xs k w ⟨by omega,hf,hx,hin⟩⟩
  · (have hl : (ws.length : Int) = 1 := h1); exact ⟨by kernel_rfl,J2 ws xs k w ⟨by omega,hf,hx,hin⟩⟩
  · (have hl : (ws.length : Int) = 2 := h1); exact ⟨by kernel_rfl,J3 ws xs k w ⟨by omega,hf,hx,hin⟩⟩
  · (have hl : (ws.length : Int) = 2 := h1); exact ⟨by kernel_rfl,LG ws xs k w ⟨by omega,hf,hx,hin⟩⟩
  · (have hl : (ws.length : Int) = 2 := h1); exact ⟨by kernel_rfl,J4 ws xs k w ⟨by omega,hf,hx,hin⟩⟩
  · (have hl : (ws.length : Int) = 2 := h1); exact ⟨by kernel_rfl,J5 ws xs k w ⟨by omega,hf,hx,hin⟩⟩
  · (have hl : (ws.length : Int) = 2 := h1); exact ⟨by kernel_rfl,J6 ws xs k w ⟨by omega,hf,hx,hin⟩⟩
  · (have hl : (ws.length : Int) = 2 := h1); exact ⟨by kernel_rfl,LH ws xs k w ⟨by omega,hf,hx,hin⟩⟩
  · (have hl : (ws.length : Int) = 2 := h1); exact ⟨by kernel_rfl,LJ ws xs k w ⟨by omega,hf,hx,hin⟩⟩
  · (have hl : (ws.length : Int) = 3 := h1); exact ⟨by kernel_rfl,J8 ws xs k w ⟨by omega,hf,hx,hin⟩ (Cn h)⟩
  · (have hl : (ws.length : Int) = 2 := h1); exact ⟨by kernel_rfl,J9 ws xs k w ⟨by omega,hf,hx,hin⟩⟩
  · (have hl : (ws.length : Int) = 1 := h1); exact ⟨by kernel_rfl,FF ws xs k w ⟨by omega,hf,hx,hin⟩ (Co h)⟩
  · (have hl : (ws.length : Int) = 1 := h1); exact ⟨by kernel_rfl,J7 ws xs k w ⟨by omega,hf,hx,hin⟩⟩
theorem uN {op : Int} (h : op = 2 ∨ op = 3 ∨ op = 4 ∨ op = 5 ∨ op = 6 ∨ op = 7 ∨ op = 8 ∨ op = 9) : ∃ (j : Nat) (e : Int × Value),eK[j]? = some e∧op = e.1∧(∀ e' ∈ eK.take j,op ≠ e'.1)∧p5 (D.ofVal e.2) (.agg [(aV op),(.fn (.func (dC op)) [] []),(.fn (.func (dD op)) [] [])]) := by
  rcases h with rfl | rfl | rfl | rfl | rfl | rfl | rfl | rfl
  · exact ⟨0,_,rfl,rfl,by decide,⟨rfl,rfl,rfl,oK⟩⟩
  · exact ⟨1,_,rfl,rfl,by decide,⟨rfl,rfl,rfl,oK⟩⟩
  · exact ⟨2,_,rfl,rfl,by decide,⟨rfl,rfl,rfl,oK⟩⟩
  · exact ⟨3,_,rfl,rfl,by decide,⟨rfl,rfl,rfl,oK⟩⟩
  · exact ⟨4,_,rfl,rfl,by decide,⟨rfl,rfl,rfl,oK⟩⟩
  · exact ⟨5,_,rfl,rfl,by decide,⟨rfl,rfl,rfl,oK⟩⟩
  · exact ⟨6,_,rfl,rfl,by decide,⟨rfl,rfl,rfl,oK⟩⟩
  · exact ⟨7,_,rfl,rfl,by decide,⟨rfl,rfl,rfl,oK⟩⟩
theorem uO {op : Int} (h : ¬(op = 2 ∨ op = 3 ∨ op = 4 ∨ op = 5 ∨ op = 6 ∨ op = 7 ∨ op = 8 ∨ op = 9)) : ∀ e' ∈ eK,op ≠ e'.1 := by
  intro e' he'
  simp only [eK,List.mem_cons,List.not_mem_nil,or_false] at he'
  rcases he' with rfl | rfl | rfl | rfl | rfl | rfl | rfl | rfl <;> simp only [ne_eq] <;> omega
theorem uP {op : Int} (h : op = 1 ∨ op = 10 ∨ op = 11 ∨ op = 12 ∨ op = 13) : ∃ (j : Nat) (e : Int × Value),fm[j]? = some e∧op = e.1∧(∀ e' ∈ fm.take j,op ≠ e'.1)∧p5 (D.ofVal e.2) (.agg [(aV op),(.fn (.func (dC op)) [] []),(.fn (.func (dD op)) [] [])]) := by
  rcases h with rfl | rfl | rfl | rfl | rfl
  · exact ⟨0,_,rfl,rfl,by decide,⟨rfl,rfl,rfl,oK⟩⟩
  · exact ⟨1,_,rfl,rfl,by decide,⟨rfl,rfl,rfl,oK⟩⟩
  · exact ⟨2,_,rfl,rfl,by decide,⟨rfl,rfl,rfl,oK⟩⟩
  · exact ⟨3,_,rfl,rfl,by decide,⟨rfl,rfl,rfl,oK⟩⟩
  · exact ⟨4,_,rfl,rfl,by decide,⟨rfl,rfl,rfl,oK⟩⟩
theorem AO {op : Int} (h : ¬(op = 1 ∨ op = 10 ∨ op = 11 ∨ op = 12 ∨ op = 13)) : ∀ e' ∈ fm,op ≠ e'.1 := by
  intro e' he'
  simp only [fm,List.mem_cons,List.not_mem_nil,or_false] at he'
  rcases he' with rfl | rfl | rfl | rfl | rfl <;> simp only [ne_eq] <;> omega
abbrev D0 (op : Int) (ws xs : List Int) (k w : Int) : Ct := ⟨77,[(i6 op),(.agg [(LI ws),(LI xs),(i6 k),(i6 w)])],true,(.tup [(.agg [(aV op),(.fn (.func (dC op)) [] []),(.fn (.func (dD op)) [] [])]),(i6 (bh op ws k w)),(dB (ay (bh op ws k w)))])⟩
def mi (op : Int) (ws : List Int) (xs : List Int) (k : Int) (w : Int) : St := ⟨[(4,cm),(7,cA),(9,(i6 (bh op ws k w)))],[(.var 173 [(LI ws),(LI xs),(i6 k),(i6 w)]),dJ,(.var 176 [(aV op),(.fn (.func (dC op)) [] []),(.fn (.func (dD op)) [] [])])]⟩
def sB (op : Int) (ws : List Int) (xs : List Int) (k : Int) (w : Int) : St := ⟨[(4,cm),(7,cA),(9,(i6 (bh op ws k w))),(44,(.agg [(aV op),(.fn (.func (dC op)) [] []),(.fn (.func (dD op)) [] [])]))],[(.var 173 [(LI ws),(LI xs),(i6 k),(i6 w)]),dJ,(.var 176 [(aV op),(.fn (.func (dC op)) [] []),(.fn (.func (dD op)) [] [])])]⟩
def sC (op : Int) (ws : List Int) (xs : List Int) (k : Int) (w : Int) : St := ⟨[(4,cm),(7,cA),(9,(i6 (bh op ws k w))),(45,(i6 (bh op ws k w)))],[(.var 173 [(LI ws),(LI xs),(i6 k),(i6 w)]),dJ,(.var 176 [(aV op),(.fn (.func (dC op)) [] []),(.fn (.func (dD op)) [] [])])]⟩
def sD (op : Int) (ws : List Int) (xs : List Int) (k : Int) (w : Int) : St := ⟨[(4,cm),(7,cA),(9,(i6 (bh op ws k w))),(46,(i6 (bh op ws k w)))],[(.var 173 [(LI ws),(LI xs),(i6 k),(i6 w)]),dJ,(.var 176 [(aV op),(.fn (.func (dC op)) [] []),(.fn (.func (dD op)) [] [])])]⟩
def mj (op : Int) (ws : List Int) (xs : List Int) (k : Int) (w : Int) : St := ⟨[(4,cm),(7,cA),(9,(i6 (bh op ws k w))),(44,(.agg [(aV op),(.fn (.func (dC op)) [] []),(.fn (.func (dD op)) [] [])])),(45,(i6 (bh op ws k w)))],[(.var 173 [(LI ws),(LI xs),(i6 k),(i6 w)]),dJ,(.var 176 [(aV op),(.fn (.func (dC op)) [] []),(.fn (.func (dD op)) [] [])])]⟩
def mm (op : Int) (ws : List Int) (xs : List Int) (k : Int) (w : Int) : St := ⟨[(4,cm),(7,cA),(9,(i6 (bh op ws k w))),(44,(.agg [(aV op),(.fn (.func (dC op)) [] []),(.fn (.func (dD op)) [] [])])),(46,(i6 (bh op ws k w)))],[(.var 173 [(LI ws),(LI xs),(i6 k),(i6 w)]),dJ,(.var 176 [(aV op),(.fn (.func (dC op)) [] []),(.fn (.func (dD op)) [] [])])]⟩
def mr (op : Int) (ws : List Int) (xs : List Int) (k : Int) (w : Int) : St := ⟨[(4,cm),(7,cA),(9,(i6 (bh op ws k w))),(45,(i6 (bh op ws k w))),(46,(i6 (bh op ws k w)))],[(.var 173 [(LI ws),(LI xs),(i6 k),(i6 w)]),dJ,(.var 176 [(aV op),(.fn (.func (dC op)) [] []),(.fn (.func (dD op)) [] [])])]⟩
def sF (op : Int) (ws : List Int) (xs : List Int) (k : Int) (w : Int) : St := ⟨[(4,cm),(7,cA),(9,(i6 (bh op ws k w))),(46,(i6 (bh op ws k w))),(47,(dB (ay (bh op ws k w))))],[(.var 173 [(LI ws),(LI xs),(i6 k),(i6 w)]),dJ,(.var 176 [(aV op),(.fn (.func (dC op)) [] []),(.fn (.func (dD op)) [] [])])]⟩
def jg (op : Int) (ws : List Int) (xs : List Int) (k : Int) (w : Int) : St := ⟨[(4,cm),(7,cA),(9,(i6 (bh op ws k w))),(44,(.agg [(aV op),(.fn (.func (dC op)) [] []),(.fn (.func (dD op)) [] [])])),(45,(i6 (bh op ws k w))),(46,(i6 (bh op ws k w)))],[(.var 173 [(LI ws),(LI xs),(i6 k),(i6 w)]),dJ,(.var 176 [(aV op),(.fn (.func (dC op)) [] []),(.fn (.func (dD op)) [] [])])]⟩
def ms (op : Int) (ws : List Int) (xs : List Int) (k : Int) (w : Int) : St := ⟨[(4,cm),(7,cA),(9,(i6 (bh op ws k w))),(44,(.agg [(aV op),(.fn (.func (dC op)) [] []),(.fn (.func (dD op)) [] [])])),(46,(i6 (bh op ws k w))),(47,(dB (ay (bh op ws k w))))],[(.var 173 [(LI ws),(LI xs),(i6 k),(i6 w)]),dJ,(.var 176 [(aV op),(.fn (.func (dC op)) [] []),(.fn (.func (dD op)) [] [])])]⟩
def kC (op : Int) (ws : List Int) (xs : List Int) (k : Int) (w : Int) : St := ⟨[(4,cm),(7,cA),(9,(i6 (bh op ws k w))),(45,(i6 (bh op ws k w))),(46,(i6 (bh op ws k w))),(47,(dB (ay (bh op ws k w))))],[(.var 173 [(LI ws),(LI xs),(i6 k),(i6 w)]),dJ,(.var 176 [(aV op),(.fn (.func (dC op)) [] []),(.fn (.func (dD op)) [] [])])]⟩
def hJ (op : Int) (ws : List Int) (xs : List Int) (k : Int) (w : Int) : St := ⟨[(4,cm),(7,cA),(9,(i6 (bh op ws k w))),(44,(.agg [(aV op),(.fn (.func (dC op)) [] []),(.fn (.func (dD op)) [] [])])),(45,(i6 (bh op ws k w))),(46,(i6 (bh op ws k w))),(47,(dB (ay (bh op ws k w))))],[(.var 173 [(LI ws),(LI xs),(i6 k),(i6 w)]),dJ,(.var 176 [(aV op),(.fn (.func (dC op)) [] []),(.fn (.func (dD op)) [] [])])]⟩
def qs (op : Int) (ws : List Int) (xs : List Int) (k : Int) (w : Int) : St := ⟨[(4,cm),(7,cA),(9,(i6 (bh op ws k w))),(44,(.agg [(aV op),(.fn (.func (dC op)) [] []),(.fn (.func (dD op)) [] [])])),(46,(i6 (bh op ws k w))),(47,(dB (ay (bh op ws k w))))],[(.var 173 [(LI ws),(LI xs),(i6 k),(i6 w)]),(.var 176 [(aV op),(.fn (.func (dC op)) [] []),(.fn (.func (dD op)) [] [])]),(.var 176 [(aV op),(.fn (.func (dC op)) [] []),(.fn (.func (dD op)) [] [])])]⟩
def kD (op : Int) (ws : List Int) (xs : List Int) (k : Int) (w : Int) : St := ⟨[(4,cm),(7,cA),(9,(i6 (bh op ws k w))),(44,(.agg [(aV op),(.fn (.func (dC op)) [] []),(.fn (.func (dD op)) [] [])])),(45,(i6 (bh op ws k w))),(46,(i6 (bh op ws k w))),(47,(dB (ay (bh op ws k w))))],[(.var 173 [(LI ws),(LI xs),(i6 k),(i6 w)]),(.var 176 [(aV op),(.fn (.func (dC op)) [] []),(.fn (.func (dD op)) [] [])]),(.var 176 [(aV op),(.fn (.func (dC op)) [] []),(.fn (.func (dD op)) [] [])])]⟩
def qt (op : Int) (ws : List Int) (xs : List Int) (k : Int) (w : Int) : St := ⟨[(4,cm),(5,(i6 (bh op ws k w))),(7,cA),(9,(i6 (bh op ws k w))),(44,(.agg [(aV op),(.fn (.func (dC op)) [] []),(.fn (.func (dD op)) [] [])])),(45,(i6 (bh op ws k w))),(46,(i6 (bh op ws k w))),(47,(dB (ay (bh op ws k w))))],[(.var 173 [(LI ws),(LI xs),(i6 k),(i6 w)]),(.var 176 [(aV op),(.fn (.func (dC op)) [] []),(.fn (.func (dD op)) [] [])]),(.var 176 [(aV op),(.fn (.func (dC op)) [] []),(.fn (.func (dD op)) [] [])])]⟩
def qu (op : Int) (ws : List Int) (xs : List Int) (k : Int) (w : Int) : St := ⟨[(4,cm),(5,(i6 (bh op ws k w))),(6,(dB (ay (bh op ws k w))))],[(.var 173 [(LI ws),(LI xs),(i6 k),(i6 w)]),(.var 176 [(aV op),(.fn (.func (dC op)) [] []),(.fn (.func (dD op)) [] [])]),(.var 176 [(aV op),(.fn (.func (dC op)) [] []),(.fn (.func (dD op)) [] [])])]⟩
def kE (op : Int) (ws : List Int) (xs : List Int) (k : Int) (w : Int) : St := ⟨[(4,cm),(7,cA),(9,(i6 (bh op ws k w)))],[(.var 173 [(LI ws),(LI xs),(i6 k),(i6 w)]),dJ,(.var 176 [(aV op),(.fn (.func (dC op)) [] []),(.fn (.func (dD op)) [] [])])]⟩
def qv (op : Int) (ws : List Int) (xs : List Int) (k : Int) (w : Int) : St := ⟨[(4,cm),(7,cA),(9,(i6 (bh op ws k w))),(44,(.agg [(aV op),(.fn (.func (dC op)) [] []),(.fn (.func (dD op)) [] [])]))],[(.var 173 [(LI ws),(LI xs),(i6 k),(i6 w)]),dJ,(.var 176 [(aV op),(.fn (.func (dC op)) [] []),(.fn (.func (dD op)) [] [])])]⟩
def qw (op : Int) (ws : List Int) (xs : List Int) (k : Int) (w : Int) : St := ⟨[(4,cm),(7,cA),(9,(i6 (bh op ws k w))),(45,(i6 (bh op ws k w)))],[(.var 173 [(LI ws),(LI xs),(i6 k),(i6 w)]),dJ,(.var 176 [(aV op),(.fn (.func (dC op)) [] []),(.fn (.func (dD op)) [] [])])]⟩
def qx (op : Int) (ws : List Int) (xs : List Int) (k : Int) (w : Int) : St := ⟨[(4,cm),(7,cA),(9,(i6 (bh op ws k w))),(46,(i6 (bh op ws k w)))],[(.var 173 [(LI ws),(LI xs),(i6 k),(i6 w)]),dJ,(.var 176 [(aV op),(.fn (.func (dC op)) [] []),(.fn (.func (dD op)) [] [])])]⟩
def kF (op : Int) (ws : List Int) (xs : List Int) (k : Int) (w : Int) : St := ⟨[(4,cm),(7,cA),(9,(i6 (bh op ws k w))),(44,(.agg [(aV op),(.fn (.func (dC op)) [] []),(.fn (.func (dD op)) [] [])])),(45,(i6 (bh op ws k w)))],[(.var 173 [(LI ws),(LI xs),(i6 k),(i6 w)]),dJ,(.var 176 [(aV op),(.fn (.func (dC op)) [] []),(.fn (.func (dD op)) [] [])])]⟩
def kG (op : Int) (ws : List Int) (xs : List Int) (k : Int) (w : Int) : St := ⟨[(4,cm),(7,cA),(9,(i6 (bh op ws k w))),(44,(.agg [(aV op),(.fn (.func (dC op)) [] []),(.fn (.func (dD op)) [] [])])),(46,(i6 (bh op ws k w)))],[(.var 173 [(LI ws),(LI xs),(i6 k),(i6 w)]),dJ,(.var 176 [(aV op),(.fn (.func (dC op)) [] []),(.fn (.func (dD op)) [] [])])]⟩
def kH (op : Int) (ws : List Int) (xs : List Int) (k : Int) (w : Int) : St := ⟨[(4,cm),(7,cA),(9,(i6 (bh op ws k w))),(45,(i6 (bh op ws k w))),(46,(i6 (bh op ws k w)))],[(.var 173 [(LI ws),(LI xs),(i6 k),(i6 w)]),dJ,(.var 176 [(aV op),(.fn (.func (dC op)) [] []),(.fn (.func (dD op)) [] [])])]⟩
def qy (op : Int) (ws : List Int) (xs : List Int) (k : Int) (w : Int) : St := ⟨[(4,cm),(7,cA),(9,(i6 (bh op ws k w))),(46,(i6 (bh op ws k w))),(47,(dB (ay (bh op ws k w))))],[(.var 173 [(LI ws),(LI xs),(i6 k),(i6 w)]),dJ,(.var 176 [(aV op),(.fn (.func (dC op)) [] []),(.fn (.func (dD op)) [] [])])]⟩
def hT (op : Int) (ws : List Int) (xs : List Int) (k : Int) (w : Int) : St := ⟨[(4,cm),(7,cA),(9,(i6 (bh op ws k w))),(44,(.agg [(aV op),(.fn (.func (dC op)) [] []),(.fn (.func (dD op)) [] [])])),(45,(i6 (bh op ws k w))),(46,(i6 (bh op ws k w)))],[(.var 173 [(LI ws),(LI xs),(i6 k),(i6 w)]),dJ,(.var 176 [(aV op),(.fn (.func (dC op)) [] []),(.fn (.func (dD op)) [] [])])]⟩
def kI (op : Int) (ws : List Int) (xs : List Int) (k : Int) (w : Int) : St := ⟨[(4,cm),(7,cA),(9,(i6 (bh op ws k w))),(44,(.agg [(aV op),(.fn (.func (dC op)) [] []),(.fn (.func (dD op)) [] [])])),(46,(i6 (bh op ws k w))),(47,(dB (ay (bh op ws k w))))],[(.var 173 [(LI ws),(LI xs),(i6 k),(i6 w)]),dJ,(.var 176 [(aV op),(.fn (.func (dC op)) [] []),(.fn (.func (dD op)) [] [])])]⟩
def jw (op : Int) (ws : List Int) (xs : List Int) (k : Int) (w : Int) : St := ⟨[(4,cm),(7,cA),(9,(i6 (bh op ws k w))),(45,(i6 (bh op ws k w))),(46,(i6 (bh op ws k w))),(47,(dB (ay (bh op ws k w))))],[(.var 173 [(LI ws),(LI xs),(i6 k),(i6 w)]),dJ,(.var 176 [(aV op),(.fn (.func (dC op)) [] []),(.fn (.func (dD op)) [] [])])]⟩
def gt (op : Int) (ws : List Int) (xs : List Int) (k : Int) (w : Int) : St := ⟨[(4,cm),(7,cA),(9,(i6 (bh op ws k w))),(44,(.agg [(aV op),(.fn (.func (dC op)) [] []),(.fn (.func (dD op)) [] [])])),(45,(i6 (bh op ws k w))),(46,(i6 (bh op ws k w))),(47,(dB (ay (bh op ws k w))))],[(.var 173 [(LI ws),(LI xs),(i6 k),(i6 w)]),dJ,(.var 176 [(aV op),(.fn (.func (dC op)) [] []),(.fn (.func (dD op)) [] [])])]⟩
def oU (op : Int) (ws : List Int) (xs : List Int) (k : Int) (w : Int) : St := ⟨[(4,cm),(7,cA),(9,(i6 (bh op ws k w))),(44,(.agg [(aV op),(.fn (.func (dC op)) [] []),(.fn (.func (dD op)) [] [])])),(46,(i6 (bh op ws k w))),(47,(dB (ay (bh op ws k w))))],[(.var 173 [(LI ws),(LI xs),(i6 k),(i6 w)]),(.var 176 [(aV op),(.fn (.func (dC op)) [] []),(.fn (.func (dD op)) [] [])]),(.var 176 [(aV op),(.fn (.func (dC op)) [] []),(.fn (.func (dD op)) [] [])])]⟩
def jx (op : Int) (ws : List Int) (xs : List Int) (k : Int) (w : Int) : St := ⟨[(4,cm),(7,cA),(9,(i6 (bh op ws k w))),(44,(.agg [(aV op),(.fn (.func (dC op)) [] []),(.fn (.func (dD op)) [] [])])),(45,(i6 (bh op ws k w))),(46,(i6 (bh op ws k w))),(47,(dB (ay (bh op ws k w))))],[(.var 173 [(LI ws),(LI xs),(i6 k),(i6 w)]),(.var 176 [(aV op),(.fn (.func (dC op)) [] []),(.fn (.func (dD op)) [] [])]),(.var 176 [(aV op),(.fn (.func (dC op)) [] []),(.fn (.func (dD op)) [] [])])]⟩
def oV (op : Int) (ws : List Int) (xs : List Int) (k : Int) (w : Int) : St := ⟨[(4,cm),(5,(i6 (bh op ws k w))),(7,cA),(9,(i6 (bh op ws k w))),(44,(.agg [(aV op),(.fn (.func (dC op)) [] []),(.fn (.func (dD op)) [] [])])),(45,(i6 (bh op ws k w))),(46,(i6 (bh op ws k w))),(47,(dB (ay (bh op ws k w))))],[(.var 173 [(LI ws),(LI xs),(i6 k),(i6 w)]),(.var 176 [(aV op),(.fn (.func (dC op)) [] []),(.fn (.func (dD op)) [] [])]),(.var 176 [(aV op),(.fn (.func (dC op)) [] []),(.fn (.func (dD op)) [] [])])]⟩
def oW (op : Int) (ws : List Int) (xs : List Int) (k : Int) (w : Int) : St := ⟨[(4,cm),(5,(i6 (bh op ws k w))),(6,(dB (ay (bh op ws k w))))],[(.var 173 [(LI ws),(LI xs),(i6 k),(i6 w)]),(.var 176 [(aV op),(.fn (.func (dC op)) [] []),(.fn (.func (dD op)) [] [])]),(.var 176 [(aV op),(.fn (.func (dC op)) [] []),(.fn (.func (dD op)) [] [])])]⟩
theorem wx (op : Int) (ws xs : List Int) (k w : Int) (hw : ws.length ≤ 9223372036854775807) (h : zg op ws = true) : CC (D0 op ws xs k w) := by
 obtain ⟨h1,h2⟩ := xG h
 have hop := uM h
 refine ai.vc (V := TT 4 (CS (op = 2 ∨ op = 3 ∨ op = 4 ∨ op = 5 ∨ op = 6 ∨ op = 7 ∨ op = 8 ∨ op = 9) (CC H9∧TT 1 ((∃ (j : Nat) (e : Int × Value),eK[j]? = some e∧op = e.1∧(∀ e' ∈ eK.take j,op ≠ e'.1)∧p5 (D.ofVal e.2) (.agg [(aV op),(.fn (.func (dC op)) [] []),(.fn (.func (dD op)) [] [])]))∧TT 18 ((True∧(!decide ((ws.length : Int) = (bE op))) = false)∧TT 2 (CC (H5 ws)∧TT 1 ((!(ws.all ay)) = false∧TT 3 (GC (cW op ws xs k w)∧TT 1 ((mi op ws xs k w) = (mi op ws xs k w)∧(((sE (sB op ws xs k w) (True))∧(sE (sC op ws xs k w) (True))∧(sE (sD op ws xs k w) (True))∧True)∧((sE (mj op ws xs k w) (True))∧(sE (mm op ws xs k w) (True))∧True)∧((sE (mj op ws xs k w) (True))∧(sE (mr op ws xs k w) (True))∧True)∧((sE (mm op ws xs k w) (True))∧(sE (mr op ws xs k w) (True))∧(sE (sF op ws xs k w) (CC (sZ (bh op ws k w))))∧True)∧((sE (jg op ws xs k w) (True))∧True)∧((sE (jg op ws xs k w) (True))∧(sE (ms op ws xs k w) (CC (sZ (bh op ws k w))))∧True)∧((sE (jg op ws xs k w) (True))∧(sE (kC op ws xs k w) (CC (sZ (bh op ws k w))))∧True)∧((sE (ms op ws xs k w) (True))∧(sE (kC op ws xs k w) (True))∧True)∧((sE (hJ op ws xs k w) (CC (sZ (bh op ws k w))))∧True)∧((sE (hJ op ws xs k w) (True))∧(sE (qs op ws xs k w) (True))∧True)∧((sE (hJ op ws xs k w) (True))∧True)∧((sE (kD op ws xs k w) (True))∧True)∧((sE (kD op ws xs k w) (True))∧True)∧((sE (qt op ws xs k w) (True))∧True)∧((sE (qu op ws xs k w) (True))∧True)∧True∧True)∧TT 3 (((bE op) = (bE op)∧((.fn (.func (dC op)) [] []) : D) = (.fn (.func (dC op)) [] [])∧((.fn (.func (dD op)) [] []) : D) = (.fn (.func (dD op)) [] [])∧True)∧(bh op ws k w) = (bh op ws k w)∧(ay (bh op ws k w)) = (ay (bh op ws k w))∧True)))))))) (CC H9∧TT 1 ((∀ e' ∈ eK,op ≠ e'.1)∧TT 8 (CC Ka∧TT 1 ((∃ (j : Nat) (e : Int × Value),fm[j]? = some e∧op = e.1∧(∀ e' ∈ fm.take j,op ≠ e'.1)∧p5 (D.ofVal e.2) (.agg [(aV op),(.fn (.func (dC op)) [] []),(.fn (.func (dD op)) [] [])]))∧TT 15 ((True∧(!decide ((ws.length : Int) = (bE op))) = false)∧TT 2 (CC (H5 ws)∧TT 1 ((!(ws.all ay)) = false∧TT 3 (GC (cW op ws xs k w)∧TT 1 ((kE op ws xs k w) = (kE op ws xs k w)∧(((sE (qv op ws xs k w) (True))∧(sE (qw op ws xs k w) (True))∧(sE (qx op ws xs k w) (True))∧True)∧((sE (kF op ws xs k w) (True))∧(sE (kG op ws xs k w) (True))∧True)∧((sE (kF op ws xs k w) (True))∧(sE (kH op ws xs k w) (True))∧True)∧((sE (kG op ws xs k w) (True))∧(sE (kH op ws xs k w) (True))∧(sE (qy op ws xs k w) (CC (sZ (bh op ws k w))))∧True)∧((sE (hT op ws xs k w) (True))∧True)∧((sE (hT op ws xs k w) (True))∧(sE (kI op ws xs k w) (CC (sZ (bh op ws k w))))∧True)∧((sE (hT op ws xs k w) (True))∧(sE (jw op ws xs k w) (CC (sZ (bh op ws k w))))∧True)∧((sE (kI op ws xs k w) (True))∧(sE (jw op ws xs k w) (True))∧True)∧((sE (gt op ws xs k w) (CC (sZ (bh op ws k w))))∧True)∧((sE (gt op ws xs k w) (True))∧(sE (oU op ws xs k w) (True))∧True)∧((sE (gt op ws xs k w) (True))∧True)∧((sE (jx op ws xs k w) (True))∧True)∧((sE (jx op ws xs k w) (True))∧True)∧((sE (oV op ws xs k w) (True))∧True)∧((sE (oW op ws xs k w) (True))∧True)∧True∧True)∧TT 3 (((bE op) = (bE op)∧((.fn (.func (dC op)) [] []) : D) = (.fn (.func (dC op)) [] [])∧((.fn (.func (dD op)) [] []) : D) = (.fn (.func (dD op)) [] [])∧True)∧(bh op ws k w) = (bh op ws k w)∧(ay (bh op ws k w)) = (ay (bh op ws k w))∧True)))))))))))) (.s 1 (op = 2 ∨ op = 3 ∨ op = 4 ∨ op = 5 ∨ op = 6 ∨ op = 7 ∨ op = 8 ∨ op = 9) (.w 1 [(0,H9.O),(2,.ent (.agg [(aV op),(.fn (.func (dC op)) [] []),(.fn (.func (dD op)) [] [])]))] <| .w 4 [(10,.val (dB false)),(13,(H5 ws).O)] <| .u 38 (.w 6 [(3,.callg none false (i6 (bh op ws k w)))] <| .y 7 [(3,(sZ (bh op ws k w)).O)] [((bm 7 0),(mi op ws xs k w)),((bm 7 1),(sB op ws xs k w)),((bm 7 2),(sC op ws xs k w)),((bm 7 4),(sD op ws xs k w)),((bm 7 3),(mj op ws xs k w)),((bm 7 5),(mm op ws xs k w)),((bm 7 6),(mr op ws xs k w)),((bm 7 12),(sF op ws xs k w)),((bm 7 7),(jg op ws xs k w)),((bm 7 13),(ms op ws xs k w)),((bm 7 14),(kC op ws xs k w)),((bm 7 15),(hJ op ws xs k w)),((bm 7 29),(qs op ws xs k w)),((bm 7 31),(kD op ws xs k w)),((bm 7 63),(qt op ws xs k w)),((bm 7 127),(qu op ws xs k w))] <| .e)) (.w 1 [(0,H9.O),(2,.idx none)] <| .w 3 [(0,Ka.O),(2,.ent (.agg [(aV op),(.fn (.func (dC op)) [] []),(.fn (.func (dD op)) [] [])]))] <| .w 4 [(10,.val (dB false)),(13,(H5 ws).O)] <| .u 38 (.w 6 [(3,.callg none false (i6 (bh op ws k w)))] <| .y 7 [(3,(sZ (bh op ws k w)).O)] [((bm 7 0),(kE op ws xs k w)),((bm 7 1),(qv op ws xs k w)),((bm 7 2),(qw op ws xs k w)),((bm 7 4),(qx op ws xs k w)),((bm 7 3),(kF op ws xs k w)),((bm 7 5),(kG op ws xs k w)),((bm 7 6),(kH op ws xs k w)),((bm 7 12),(qy op ws xs k w)),((bm 7 7),(hT op ws xs k w)),((bm 7 13),(kI op ws xs k w)),((bm 7 14),(jw op ws xs k w)),((bm 7 15),(gt op ws xs k w)),((bm 7 29),(oU op ws xs k w)),((bm 7 31),(jx op ws xs k w)),((bm 7 63),(oV op ws xs k w)),((bm 7 127),(oW op ws xs k w))] <| .e))) Try.func77 rfl rfl rfl (by kernel_rfl) ?_
 refine tt ⟨fun hs0 => ?_,fun hs0 => ?_⟩
 · have hS := hs0
   exact ⟨nq,tt ⟨(uN hS),tt ⟨(nF h1),tt ⟨(je ws hw),tt ⟨(My h2),tt ⟨(Jj op ws xs k w h),tt ⟨rfl,⟨⟨⟨⟨rfl,oK,oK⟩,⟨rfl,oK,oK⟩,⟨rfl,oK,oK⟩,oK⟩,⟨⟨rfl,oK,oK⟩,⟨rfl,oK,oK⟩,oK⟩,⟨⟨rfl,oK,oK⟩,⟨rfl,oK,oK⟩,oK⟩,⟨⟨rfl,oK,oK⟩,⟨rfl,oK,oK⟩,⟨rfl,(dj (bh op ws k w)),oK⟩,oK⟩,⟨⟨rfl,oK,oK⟩,oK⟩,⟨⟨rfl,oK,oK⟩,⟨rfl,(dj (bh op ws k w)),oK⟩,oK⟩,⟨⟨rfl,oK,oK⟩,⟨rfl,(dj (bh op ws k w)),oK⟩,oK⟩,⟨⟨rfl,oK,oK⟩,⟨rfl,oK,oK⟩,oK⟩,⟨⟨rfl,(dj (bh op ws k w)),oK⟩,oK⟩,⟨⟨rfl,oK,oK⟩,⟨rfl,oK,oK⟩,oK⟩,⟨⟨rfl,oK,oK⟩,oK⟩,⟨⟨rfl,oK,oK⟩,oK⟩,⟨⟨rfl,oK,oK⟩,oK⟩,⟨⟨rfl,oK,oK⟩,oK⟩,⟨⟨rfl,oK,oK⟩,oK⟩,oK,oK⟩,tt ⟨⟨rfl,rfl,rfl,oK⟩,rfl,rfl,oK⟩⟩⟩⟩⟩⟩⟩⟩⟩
 · have hS := hs0
   exact ⟨nq,tt ⟨(uO hS),tt ⟨rQ,tt ⟨(uP (by omega)),tt ⟨(nF h1),tt ⟨(je ws hw),tt ⟨(My h2),tt ⟨(Jj op ws xs k w h),tt ⟨rfl,⟨⟨⟨⟨rfl,oK,oK⟩,⟨rfl,oK,oK⟩,⟨rfl,oK,oK⟩,oK⟩,⟨⟨rfl,oK,oK⟩,⟨rfl,oK,oK⟩,oK⟩,⟨⟨rfl,oK,oK⟩,⟨rfl,oK,oK⟩,oK⟩,⟨⟨rfl,oK,oK⟩,⟨rfl,oK,oK⟩,⟨rfl,(dj (bh op ws k w)),oK⟩,oK⟩,⟨⟨rfl,oK,oK⟩,oK⟩,⟨⟨rfl,oK,oK⟩,⟨rfl,(dj (bh op ws k w)),oK⟩,oK⟩,⟨⟨rfl,oK,oK⟩,⟨rfl,(dj (bh op ws k w)),oK⟩,oK⟩,⟨⟨rfl,oK,oK⟩,⟨rfl,oK,oK⟩,oK⟩,⟨⟨rfl,(dj (bh op ws k w)),oK⟩,oK⟩,⟨⟨rfl,oK,oK⟩,⟨rfl,oK,oK⟩,oK⟩,⟨⟨rfl,oK,oK⟩,oK⟩,⟨⟨rfl,oK,oK⟩,oK⟩,⟨⟨rfl,oK,oK⟩,oK⟩,⟨⟨rfl,oK,oK⟩,oK⟩,⟨⟨rfl,oK,oK⟩,oK⟩,oK,oK⟩,tt ⟨⟨rfl,rfl,rfl,oK⟩,rfl,rfl,oK⟩⟩⟩⟩⟩⟩⟩⟩⟩⟩⟩
abbrev D1 (op : Int) (ws xs : List Int) (k w : Int) : Ct := ⟨77,[(i6 op),(.agg [(LI ws),(LI xs),(i6 k),(i6 w)])],true,(.tup [(.agg [(i6 0),(.v .nilf),(.v .nilf)]),(i6 0),(dB false)])⟩
theorem wy (op : Int) (ws xs : List Int) (k w : Int) (hw : ws.length ≤ 9223372036854775807) (h : zg op ws = false) : CC (D1 op ws xs k w) := by
 refine ai.vc (V := TT 4 (CS (op = 2 ∨ op = 3 ∨ op = 4 ∨ op = 5 ∨ op = 6 ∨ op = 7 ∨ op = 8 ∨ op = 9) (CC H9∧TT 1 ((∃ (j : Nat) (e : Int × Value),eK[j]? = some e∧op = e.1∧(∀ e' ∈ eK.take j,op ≠ e'.1)∧p5 (D.ofVal e.2) (.agg [(aV op),(.fn (.func (dC op)) [] []),(.fn (.func (dD op)) [] [])]))∧TT 8 (CS ((ws.length : Int) = (bE op)) (TT 10 ((True∧(!decide ((ws.length : Int) = (bE op))) = false)∧TT 2 (CC (H5 ws)∧TT 1 ((!(ws.all ay)) = true∧TT 7 (((0 : Int) = 0∧True∧True∧True)∧(0 : Int) = 0∧false = false∧True))))) (TT 10 ((True∧(!decide ((ws.length : Int) = (bE op))) = true)∧TT 11 (((0 : Int) = 0∧True∧True∧True)∧(0 : Int) = 0∧false = false∧True)))))) (CC H9∧TT 1 ((∀ e' ∈ eK,op ≠ e'.1)∧TT 8 (CS (op = 1 ∨ op = 10 ∨ op = 11 ∨ op = 12 ∨ op = 13) (CC Ka∧TT 1 ((∃ (j : Nat) (e : Int × Value),fm[j]? = some e∧op = e.1∧(∀ e' ∈ fm.take j,op ≠ e'.1)∧p5 (D.ofVal e.2) (.agg [(aV op),(.fn (.func (dC op)) [] []),(.fn (.func (dD op)) [] [])]))∧TT 5 (CS ((ws.length : Int) = (bE op)) (TT 10 ((True∧(!decide ((ws.length : Int) = (bE op))) = false)∧TT 2 (CC (H5 ws)∧TT 1 ((!(ws.all ay)) = true∧TT 7 (((0 : Int) = 0∧True∧True∧True)∧(0 : Int) = 0∧false = false∧True))))) (TT 10 ((True∧(!decide ((ws.length : Int) = (bE op))) = true)∧TT 11 (((0 : Int) = 0∧True∧True∧True)∧(0 : Int) = 0∧false = false∧True)))))) (CC Ka∧TT 1 ((∀ e' ∈ fm,op ≠ e'.1)∧TT 27 (((0 : Int) = 0∧True∧True∧True)∧(0 : Int) = 0∧false = false∧True)))))))) (.s 1 (op = 2 ∨ op = 3 ∨ op = 4 ∨ op = 5 ∨ op = 6 ∨ op = 7 ∨ op = 8 ∨ op = 9) (.w 1 [(0,H9.O),(2,.ent (.agg [(aV op),(.fn (.func (dC op)) [] []),(.fn (.func (dD op)) [] [])]))] <| .s 4 ((ws.length : Int) = (bE op)) (.w 4 [(10,.val (dB false)),(13,(H5 ws).O)] <| .t 38 (.e)) (.w 4 [(10,.val (dB true))] <| .e)) (.w 1 [(0,H9.O),(2,.idx none)] <| .s 3 (op = 1 ∨ op = 10 ∨ op = 11 ∨ op = 12 ∨ op = 13) (.w 3 [(0,Ka.O),(2,.ent (.agg [(aV op),(.fn (.func (dC op)) [] []),(.fn (.func (dD op)) [] [])]))] <| .s 4 ((ws.length : Int) = (bE op)) (.w 4 [(10,.val (dB false)),(13,(H5 ws).O)] <| .t 38 (.e)) (.w 4 [(10,.val (dB true))] <| .e)) (.w 3 [(0,Ka.O),(2,.idx none)] <| .e))) Try.func77 rfl rfl rfl (by kernel_rfl) ?_
 refine tt ⟨fun hs0 => ?_,fun hs0 => ?_⟩
 · have hS := hs0
   refine ⟨nq,tt ⟨(uN hS),tt ⟨fun hs1 => ?_,fun hs1 => ?_⟩⟩⟩
   · exact tt ⟨(nF hs1),tt ⟨(je ws hw),tt ⟨(MK (by rcases Fx h with h5 | ⟨_,h5⟩; exact absurd (by assumption) h5; rw [h5]; simp)),tt ⟨⟨rfl,oK,oK,oK⟩,rfl,rfl,oK⟩⟩⟩⟩
   · exact tt ⟨(nT hs1),tt ⟨⟨rfl,oK,oK,oK⟩,rfl,rfl,oK⟩⟩
 · have hS := hs0
   refine ⟨nq,tt ⟨(uO hS),tt ⟨fun hs2 => ?_,fun hs2 => ?_⟩⟩⟩
   · have hO := hs2
     refine ⟨rQ,tt ⟨(uP hO),tt ⟨fun hs3 => ?_,fun hs3 => ?_⟩⟩⟩
     · exact tt ⟨(nF hs3),tt ⟨(je ws hw),tt ⟨(MK (by rcases Fx h with h5 | ⟨_,h5⟩; exact absurd (by assumption) h5; rw [h5]; simp)),tt ⟨⟨rfl,oK,oK,oK⟩,rfl,rfl,oK⟩⟩⟩⟩
     · exact tt ⟨(nT hs3),tt ⟨⟨rfl,oK,oK,oK⟩,rfl,rfl,oK⟩⟩
   · have hO := hs2
     exact ⟨rQ,tt ⟨(AO hO),tt ⟨⟨rfl,oK,oK,oK⟩,rfl,rfl,oK⟩⟩⟩
theorem pG {op : Int} {ws : List Int} {k w : Int} (h : zg op ws = true) (h2 : ay (bh op ws k w) = true) : oq op ws k w = true := by rw [AN,h,h2]; rfl
theorem ci {op : Int} {ws : List Int} {k w : Int} (h : ¬zg op ws = true) : oq op ws k w = false := by rw [AN,Bool.eq_false_iff.2 h]; rfl
theorem cj {op : Int} {ws : List Int} {k w : Int} (h2 : ¬ay (bh op ws k w) = true) : oq op ws k w = false := by rw [AN,Bool.eq_false_iff.2 h2,Bool.and_false]
theorem lC {op : Int} {ws : List Int} {k w : Int} (h : oq op ws k w = false) : 0 = gd op ws k w∧1 = mh op ws k w := by unfold gd mh; rw [h]; exact ⟨rfl,rfl⟩
theorem rR {op : Int} {ws : List Int} {k w : Int} (h : oq op ws k w = true) : bh op ws k w = gd op ws k w∧0 = mh op ws k w := by unfold gd mh; rw [h]; exact ⟨rfl,rfl⟩
abbrev MV (op : Int) (ws : List Int) (k w : Int) : Ct := ⟨72,[(i6 op),(LI ws),(.agg [(i6 k),(i6 w)])],false,(.tup [(i6 (gd op ws k w)),(i6 (mh op ws k w))])⟩
theorem FG (op : Int) (ws : List Int) (k w : Int) (hw : ws.length ≤ 9223372036854775807) : CC (MV op ws k w) := by
 refine ai.vc (V := TT 3 (CS (zg op ws = true) (TT 2 (((0 ≤ (0 : Int)∧0 < (2 : Int))∧True)∧TT 1 (((0 ≤ (1 : Int)∧1 < (2 : Int))∧True)∧TT 2 ((vu [] [(i6 op),(.agg [(LI ws),.nils,(i6 k),(i6 w)])] (D0 op ws [] k w).as∧CC (D0 op ws [] k w))∧TT 10 (CB (!(ay (bh op ws k w))) (TT 4 (((0 : Int) = (gd op ws k w)∧(1 : Int) = (mh op ws k w)∧True)∧(True∧True∧True))) (TT 5 (((bh op ws k w) = (gd op ws k w)∧(0 : Int) = (mh op ws k w)∧True)∧(True∧True∧True)))))))) (TT 2 (((0 ≤ (0 : Int)∧0 < (2 : Int))∧True)∧TT 1 (((0 ≤ (1 : Int)∧1 < (2 : Int))∧True)∧TT 2 ((vu [] [(i6 op),(.agg [(LI ws),.nils,(i6 k),(i6 w)])] (D1 op ws [] k w).as∧CC (D1 op ws [] k w))∧TT 14 (((0 : Int) = (gd op ws k w)∧(1 : Int) = (mh op ws k w)∧True)∧(True∧True∧True)))))))) (.s 1 (zg op ws = true) (.w 1 [(7,(D0 op ws [] k w).O')] <| .b 24 (.e) (.e)) (.w 1 [(7,(D1 op ws [] k w).O')] <| .e)) Try.func72 rfl rfl rfl (by kernel_rfl) ?_
 refine tt ⟨fun hs0 => ?_,fun hs0 => ?_⟩
 · have hb := hs0
   refine tt ⟨⟨by omega,oK⟩,tt ⟨⟨by omega,oK⟩,tt ⟨⟨⟨rfl,⟨rfl,rfl,rfl,rfl,oK⟩,oK⟩,(wx op ws [] k w hw hb)⟩,tt ⟨fun hc24 => ?_,fun hc24 => ?_⟩⟩⟩⟩
   · refine tt ⟨⟨?_,?_,oK⟩,⟨oK,oK,oK⟩⟩
     all_goals (first | exact (lC (ci hb)).1 | exact (lC (ci hb)).2 | exact (lC (cj (by simpa using hc24))).1 | exact (lC (cj (by simpa using hc24))).2 | exact (rR (pG hb (by simpa using hc24))).1 | exact (rR (pG hb (by simpa using hc24))).2)
   · refine tt ⟨⟨?_,?_,oK⟩,⟨oK,oK,oK⟩⟩
     all_goals (first | exact (lC (ci hb)).1 | exact (lC (ci hb)).2 | exact (lC (cj (by simpa using hc24))).1 | exact (lC (cj (by simpa using hc24))).2 | exact (rR (pG hb (by simpa using hc24))).1 | exact (rR (pG hb (by simpa using hc24))).2)
 · have hb := hs0
   refine tt ⟨⟨by omega,oK⟩,tt ⟨⟨by omega,oK⟩,tt ⟨⟨⟨rfl,⟨rfl,rfl,rfl,rfl,oK⟩,oK⟩,(wy op ws [] k w hw (Bool.eq_false_iff.2 hb))⟩,tt ⟨⟨?_,?_,oK⟩,⟨oK,oK,oK⟩⟩⟩⟩⟩
   all_goals (first | exact (lC (ci hb)).1 | exact (lC (ci hb)).2 | exact (lC (cj (by simpa using hc24))).1 | exact (lC (cj (by simpa using hc24))).2 | exact (rR (pG hb (by simpa using hc24))).1 | exact (rR (pG hb (by simpa using hc24))).2)
abbrev MW (op : Int) (ws xs nums : List Int) : Ct := ⟨71,[(i6 op),(LI ws),(LI xs),(LI nums)],false,(.tup [(i6 (dA op ws xs nums)),(i6 (gO op ws xs nums))])⟩
abbrev qz (op : Int) (ws : List Int) (xs : List Int) (nums : List Int) : Lp (Nat) := oS [1,10,11,44,45,46] 11 (fun (i : Nat) => ⟨[(1,(LI ws)),(10,(.ptr 9 0 0 0)),(11,(.ptr 10 0 0 0)),(44,(LI xs)),(45,(i6 (xs.length : Int))),(46,(i6 (i : Int)))],[.dead,.dead,.dead,.dead,.dead,.dead,.dead,.dead,.dead,(.var 173 [(LI ws),(LI xs),(i6 (nums.getD 0 0)),(i6 (nums.getD 1 0))]),(.var 176 [(aV op),(.fn (.func (dC op)) [] []),(.fn (.func (dD op)) [] [])])]⟩) (fun (i : Nat) => i ≤ xs.length∧∀ j,j < i → 0 ≤ xs.getD j 0∧xs.getD j 0 ≤ an (ws.getD j 0)) (fun (i : Nat) => xs.length - i)
theorem FH (op : Int) (ws xs nums : List Int) (hwl : ws.length ≤ 9223372036854775807) (hxl0 : xs.length ≤ 9223372036854775807) : CC (MW op ws xs nums) := by
 refine ai.vc (V := TT 2 (CS ((nums.length : Int) = 2) (TT 3 ((True∧(!decide ((nums.length : Int) = 2)) = false)∧TT 6 (CN ((xs.length : Int) = (ws.length : Int)) (TT 4 (((0 : Int) = (dA op ws xs nums)∧(1 : Int) = (gO op ws xs nums)∧True)∧(True∧True∧True))) (TT 3 (IX 0 nums.length∧TT 2 (IX 1 nums.length∧TT 4 (CS (zg op ws = true) (TT 2 (CC (D0 op ws xs (nums.getD 0 0) (nums.getD 1 0))∧TT 10 (CB (!(ay (bh op ws (nums.getD 0 0) (nums.getD 1 0)))) (TT 4 (((0 : Int) = (dA op ws xs nums)∧(1 : Int) = (gO op ws xs nums)∧True)∧(True∧True∧True))) (TT 3 (GO (qz op ws xs nums) 0 (∀ i,(qz op ws xs nums).inv i → TT 1 (CD ((i : Int) < (xs.length : Int)) (TT 1 (IX (i : Int) xs.length∧TT 3 (CS ((xs.getD i 0) < 0) (TT 2 ((True∧(decide ((xs.getD i 0) < 0)) = true)∧TT 12 (((0 : Int) = (dA op ws xs nums)∧(1 : Int) = (gO op ws xs nums)∧True)∧(True∧True∧True)))) (TT 2 ((True∧(decide ((xs.getD i 0) < 0)) = false)∧TT 3 (IX (i : Int) ws.length∧TT 1 (CC (H4 (ws.getD i 0))∧TT 2 (CD ((xs.getD i 0) > (an (ws.getD i 0))) (TT 4 (((0 : Int) = (dA op ws xs nums)∧(1 : Int) = (gO op ws xs nums)∧True)∧(True∧True∧True))) (W6 ((i + 1 : Nat) : Int)∧TT 1 (AG (qz op ws xs nums) i (i + 1))))))))))) (TT 3 (GC (cV op ws xs (nums.getD 0 0) (nums.getD 1 0))∧TT 4 (((ot op ws xs (nums.getD 0 0) (nums.getD 1 0)) = (dA op ws xs nums)∧(0 : Int) = (gO op ws xs nums)∧True)∧(True∧True∧True))))))))))) (TT 2 (CC (D1 op ws xs (nums.getD 0 0) (nums.getD 1 0))∧TT 14 (((0 : Int) = (dA op ws xs nums)∧(1 : Int) = (gO op ws xs nums)∧True)∧(True∧True∧True))))))))))) (TT 3 ((True∧(!decide ((nums.length : Int) = 2)) = true)∧TT 10 (((0 : Int) = (dA op ws xs nums)∧(1 : Int) = (gO op ws xs nums)∧True)∧(True∧True∧True)))))) (.s 1 ((nums.length : Int) = 2) (.w 1 [(3,.val (dB false))] <| .b 25 (.e) (.s 4 (zg op ws = true) (.w 4 [(2,(D0 op ws xs (nums.getD 0 0) (nums.getD 1 0)).O)] <| .b 43 (.e) (.l (qz op ws xs nums) 0 (fun i => .b 47 (.s 10 ((xs.getD i 0) < 0) (.w 10 [(2,.val (dB true))] <| .e) (.w 10 [(2,.val (dB false)),(8,(H4 (ws.getD i 0)).O)] <| .b 61 (.e) (.w 12 [(0,.val (i6 ((i + 1 : Nat) : Int)))] <| .e))) (.w 13 [(3,.callg none false (i6 (ot op ws xs (nums.getD 0 0) (nums.getD 1 0))))] <| .e)))) (.w 4 [(2,(D1 op ws xs (nums.getD 0 0) (nums.getD 1 0)).O)] <| .e))) (.w 1 [(3,.val (dB true))] <| .e)) Try.func71 rfl rfl rfl (by kernel_rfl) ?_
 refine tt ⟨fun hs0 => ?_,fun hs0 => ?_⟩
 · refine tt ⟨(nF hs0),tt (cn (fun hc25 => ?_) (fun hc25 => ?_))⟩
   · refine tt ⟨⟨?_,?_,oK⟩,⟨oK,oK,oK⟩⟩
     all_goals (first | exact (aU (qp (by omega))).1.symm | exact (aU (qp (by omega))).2.symm | exact (aU (qq (by omega))).1.symm | exact (aU (qq (by omega))).2.symm | exact (aU (bX (ci hb))).1.symm | exact (aU (bX (ci hb))).2.symm | exact (aU (bX (cj (by simpa using hc43)))).1.symm | exact (aU (bX (cj (by simpa using hc43)))).2.symm | exact (aU (jd (i := i) (by omega) (by omega))).1.symm | exact (aU (jd (i := i) (by omega) (by omega))).2.symm | exact (eN hl2 hxl hok hin).1.symm | exact (eN hl2 hxl hok hin).2.symm)
   · refine tt ⟨ix,tt ⟨ix,tt ⟨fun hs1 => ?_,fun hs1 => ?_⟩⟩⟩
     · have hb := hs1
       refine tt ⟨(wx op ws xs (nums.getD 0 0) (nums.getD 1 0) hwl hb),tt ⟨fun hc43 => ?_,fun hc43 => ?_⟩⟩
       · refine tt ⟨⟨?_,?_,oK⟩,⟨oK,oK,oK⟩⟩
         all_goals (first | exact (aU (qp (by omega))).1.symm | exact (aU (qp (by omega))).2.symm | exact (aU (qq (by omega))).1.symm | exact (aU (qq (by omega))).2.symm | exact (aU (bX (ci hb))).1.symm | exact (aU (bX (ci hb))).2.symm | exact (aU (bX (cj (by simpa using hc43)))).1.symm | exact (aU (bX (cj (by simpa using hc43)))).2.symm | exact (aU (jd (i := i) (by omega) (by omega))).1.symm | exact (aU (jd (i := i) (by omega) (by omega))).2.symm | exact (eN hl2 hxl hok hin).1.symm | exact (eN hl2 hxl hok hin).2.symm)
       · refine tt ?_
         have hok := pG hb (by simpa using hc43)
         have hl2 : nums.length = 2 := by omega
         have hxl : xs.length = ws.length := by omega
         refine ⟨rfl,⟨by omega,fun j hj => by omega⟩,?_⟩
         intro i hinv
         obtain ⟨hi,hall⟩ := hinv
         refine tt (cd (fun hc47 => ?_) (fun hc47 => ?_))
         · refine tt ⟨ix,tt ⟨fun hs2 => ?_,fun hs2 => ?_⟩⟩
           · refine tt ⟨(vT hs2),tt ⟨⟨?_,?_,oK⟩,⟨oK,oK,oK⟩⟩⟩
             all_goals (first | exact (aU (qp (by omega))).1.symm | exact (aU (qp (by omega))).2.symm | exact (aU (qq (by omega))).1.symm | exact (aU (qq (by omega))).2.symm | exact (aU (bX (ci hb))).1.symm | exact (aU (bX (ci hb))).2.symm | exact (aU (bX (cj (by simpa using hc43)))).1.symm | exact (aU (bX (cj (by simpa using hc43)))).2.symm | exact (aU (jd (i := i) (by omega) (by omega))).1.symm | exact (aU (jd (i := i) (by omega) (by omega))).2.symm | exact (eN hl2 hxl hok hin).1.symm | exact (eN hl2 hxl hok hin).2.symm)
           · refine tt ⟨(vF hs2),tt ⟨ix,tt ⟨(tv (ws.getD i 0)),tt (cd (fun hc61 => ?_) (fun hc61 => ?_))⟩⟩⟩
             · refine tt ⟨⟨?_,?_,oK⟩,⟨oK,oK,oK⟩⟩
               all_goals (first | exact (aU (qp (by omega))).1.symm | exact (aU (qp (by omega))).2.symm | exact (aU (qq (by omega))).1.symm | exact (aU (qq (by omega))).2.symm | exact (aU (bX (ci hb))).1.symm | exact (aU (bX (ci hb))).2.symm | exact (aU (bX (cj (by simpa using hc43)))).1.symm | exact (aU (bX (cj (by simpa using hc43)))).2.symm | exact (aU (jd (i := i) (by omega) (by omega))).1.symm | exact (aU (jd (i := i) (by omega) (by omega))).2.symm | exact (eN hl2 hxl hok hin).1.symm | exact (eN hl2 hxl hok hin).2.symm)
             · refine ⟨w6,tt ⟨(i + 1),rfl,?_,(?_ : xs.length - (i + 1) < xs.length - i)⟩⟩
               · exact ⟨by omega,eJ hall ⟨by omega,by omega⟩⟩
               · omega
         · have hin : DV ws xs = true := Fw (fun j hj => hall j (by omega))
           refine tt ⟨(LK op ws xs _ _ hok hxl hin),tt ⟨⟨?_,?_,oK⟩,⟨oK,oK,oK⟩⟩⟩
           all_goals (first | exact (aU (qp (by omega))).1.symm | exact (aU (qp (by omega))).2.symm | exact (aU (qq (by omega))).1.symm | exact (aU (qq (by omega))).2.symm | exact (aU (bX (ci hb))).1.symm | exact (aU (bX (ci hb))).2.symm | exact (aU (bX (cj (by simpa using hc43)))).1.symm | exact (aU (bX (cj (by simpa using hc43)))).2.symm | exact (aU (jd (i := i) (by omega) (by omega))).1.symm | exact (aU (jd (i := i) (by omega) (by omega))).2.symm | exact (eN hl2 hxl hok hin).1.symm | exact (eN hl2 hxl hok hin).2.symm)
     · have hb := hs1
       refine tt ⟨(wy op ws xs (nums.getD 0 0) (nums.getD 1 0) hwl (Bool.eq_false_iff.2 hb)),tt ⟨⟨?_,?_,oK⟩,⟨oK,oK,oK⟩⟩⟩
       all_goals (first | exact (aU (qp (by omega))).1.symm | exact (aU (qp (by omega))).2.symm | exact (aU (qq (by omega))).1.symm | exact (aU (qq (by omega))).2.symm | exact (aU (bX (ci hb))).1.symm | exact (aU (bX (ci hb))).2.symm | exact (aU (bX (cj (by simpa using hc43)))).1.symm | exact (aU (bX (cj (by simpa using hc43)))).2.symm | exact (aU (jd (i := i) (by omega) (by omega))).1.symm | exact (aU (jd (i := i) (by omega) (by omega))).2.symm | exact (eN hl2 hxl hok hin).1.symm | exact (eN hl2 hxl hok hin).2.symm)
 · refine tt ⟨(nT hs0),tt ⟨⟨?_,?_,oK⟩,⟨oK,oK,oK⟩⟩⟩
   all_goals (first | exact (aU (qp (by omega))).1.symm | exact (aU (qp (by omega))).2.symm | exact (aU (qq (by omega))).1.symm | exact (aU (qq (by omega))).2.symm | exact (aU (bX (ci hb))).1.symm | exact (aU (bX (ci hb))).2.symm | exact (aU (bX (cj (by simpa using hc43)))).1.symm | exact (aU (bX (cj (by simpa using hc43)))).2.symm | exact (aU (jd (i := i) (by omega) (by omega))).1.symm | exact (aU (jd (i := i) (by omega) (by omega))).2.symm | exact (eN hl2 hxl hok hin).1.symm | exact (eN hl2 hxl hok hin).2.symm)
end Go.Proofs.Ytckgpflobhpnpaa
