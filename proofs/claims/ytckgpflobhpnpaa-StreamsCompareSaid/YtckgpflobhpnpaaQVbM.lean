/-
  Package bits: the tables of operators; Width, Apply.
-/
import Derived.Test.YtckgpflobhpnpaaQVbB
namespace Go.Proofs.Ytckgpflobhpnpaa
open Go.RowKit
set_option linter.unusedVariables false
set_option linter.unusedSimpArgs false
abbrev dj : aj := (.var 176 [(i6 0),(.v .nilf),(.v .nilf)])
abbrev aN (op : Int) : D := (i6 (bB op))
abbrev b8 : D := (.ptr 1 0 0 0)
abbrev ck : D := (.ptr 2 0 0 0)
set_option maxRecDepth 100000
def d8 : List (Int × Value) := [(2,.agg #[.int .i64 1,.func (.func 84) #[] #[],.func (.func 85) #[] #[]]),(3,.agg #[.int .i64 2,.func (.func 87) #[] #[],.func (.func 88) #[] #[]]),(4,.agg #[.int .i64 2,.func (.func 87) #[] #[],.func (.func 89) #[] #[]]),(5,.agg #[.int .i64 2,.func (.func 87) #[] #[],.func (.func 90) #[] #[]]),(6,.agg #[.int .i64 2,.func (.func 87) #[] #[],.func (.func 91) #[] #[]]),(7,.agg #[.int .i64 2,.func (.func 87) #[] #[],.func (.func 92) #[] #[]]),(8,.agg #[.int .i64 2,.func (.func 93) #[] #[],.func (.func 94) #[] #[]]),(9,.agg #[.int .i64 2,.func (.func 93) #[] #[],.func (.func 96) #[] #[]])]
set_option maxHeartbeats 800000 in
theorem vN (w : World) : Calls Try.prog 80 #[] w (fun e w' => ∃ arr : Array MapEntry,e = .returned (.map (some w.heap.size))∧w' = w.alloc (.map arr 8)∧arr.toList.map (fun e => (e.key,e.val)) = d8.map (fun e => (Value.int .i64 e.1,e.2))) := by
  go_enter Try.func80,Try.ntmps80
  go_wp2_with (first | (rw [qN]) | (rw [sR Try.underlying181 Try.underlying3 (by rfl)]))
  go_ret
  exact ⟨_,rfl,rfl,rfl⟩
abbrev E4 : Ct := ⟨80,[],false,.v (.mp d8)⟩
theorem md : CC E4 := ai.of_map vN
def eM : List (Int × Value) := [(1,.agg #[.int .i64 0,.func (.func 97) #[] #[],.func (.func 98) #[] #[]]),(10,.agg #[.int .i64 3,.func (.func 99) #[] #[],.func (.func 100) #[] #[]]),(11,.agg #[.int .i64 2,.func (.func 101) #[] #[],.func (.func 102) #[] #[]]),(12,.agg #[.int .i64 1,.func (.func 103) #[] #[],.func (.func 104) #[] #[]]),(13,.agg #[.int .i64 1,.func (.func 105) #[] #[],.func (.func 106) #[] #[]])]
set_option maxHeartbeats 800000 in
theorem vO (w : World) : Calls Try.prog 81 #[] w (fun e w' => ∃ arr : Array MapEntry,e = .returned (.map (some w.heap.size))∧w' = w.alloc (.map arr 5)∧arr.toList.map (fun e => (e.key,e.val)) = eM.map (fun e => (Value.int .i64 e.1,e.2))) := by
  go_enter Try.func81,Try.ntmps81
  go_wp2_with (first | (rw [qN]) | (rw [sR Try.underlying181 Try.underlying3 (by rfl)]))
  go_ret
  exact ⟨_,rfl,rfl,rfl⟩
abbrev GR : Ct := ⟨81,[],false,.v (.mp eM)⟩
theorem qp : CC GR := ai.of_map vO
def dc (op : Int) : Nat :=
  if op = 1 then 97 else
  if op = 2 then 84 else
  if op = 3 then 87 else
  if op = 4 then 87 else
  if op = 5 then 87 else
  if op = 6 then 87 else
  if op = 7 then 87 else
  if op = 8 then 93 else
  if op = 9 then 93 else
  if op = 10 then 99 else
  if op = 11 then 101 else
  if op = 12 then 103 else
  if op = 13 then 105 else 0
def de (op : Int) : Nat :=
  if op = 1 then 98 else
  if op = 2 then 85 else
  if op = 3 then 88 else
  if op = 4 then 89 else
  if op = 5 then 90 else
  if op = 6 then 91 else
  if op = 7 then 92 else
  if op = 8 then 94 else
  if op = 9 then 96 else
  if op = 10 then 100 else
  if op = 11 then 102 else
  if op = 12 then 104 else
  if op = 13 then 106 else 0
abbrev cW (op : Int) (ws xs : List Int) (k w : Int) : Ct := ⟨dc op,[(.agg [(LI ws),(LI xs),(i6 k),(i6 w)])],false,i6 (bj op ws k w)⟩
abbrev cV (op : Int) (ws xs : List Int) (k w : Int) : Ct := ⟨de op,[(.agg [(LI ws),(LI xs),(i6 k),(i6 w)])],false,i6 (mU op ws xs k w)⟩
theorem sU {op : Int} {ws : List Int} (h : xj op ws = true) : op = 1 ∨ op = 2 ∨ op = 3 ∨ op = 4 ∨ op = 5 ∨ op = 6 ∨ op = 7 ∨ op = 8 ∨ op = 9 ∨ op = 10 ∨ op = 11 ∨ op = 12 ∨ op = 13 := by
  have h1 := (vM h).1
  by_cases hr : op < 1 ∨ 13 < op
  · have : bB op = -1 := by unfold bB; rw [if_neg (by omega),if_neg (by omega),if_neg (by omega),if_neg (by omega)]
    omega
  · omega
theorem F0 (op : Int) (ws xs : List Int) (k w : Int) (h : xj op ws = true) : GC (cW op ws xs k w) := by
  obtain ⟨h1,hf⟩ := vM h
  rcases sU h with rfl | rfl | rfl | rfl | rfl | rfl | rfl | rfl | rfl | rfl | rfl | rfl | rfl
  · (have hl : (ws.length : Int) = 0 := h1); exact ⟨by kernel_rfl,Bh ws xs k w (by omega) hf⟩
  · (have hl : (ws.length : Int) = 1 := h1); exact ⟨by kernel_rfl,CW ws xs k w (by omega) hf⟩
  · (have hl : (ws.length : Int) = 2 := h1); exact ⟨by kernel_rfl,jq ws xs k w (by omega) hf⟩
  · (have hl : (ws.length : Int) = 2 := h1); exact ⟨by kernel_rfl,jq ws xs k w (by omega) hf⟩
  · (have hl : (ws.length : Int) = 2 := h1); exact ⟨by kernel_rfl,jq ws xs k w (by omega) hf⟩
  · (have hl : (ws.length : Int) = 2 := h1); exact ⟨by kernel_rfl,jq ws xs k w (by omega) hf⟩
  · (have hl : (ws.length : Int) = 2 := h1); exact ⟨by kernel_rfl,jq ws xs k w (by omega) hf⟩
  · (have hl : (ws.length : Int) = 2 := h1); exact ⟨by kernel_rfl,CX ws xs k w (by omega) hf⟩
  · (have hl : (ws.length : Int) = 2 := h1); exact ⟨by kernel_rfl,CX ws xs k w (by omega) hf⟩
  · (have hl : (ws.length : Int) = 3 := h1); exact ⟨by kernel_rfl,EZ ws xs k w (by omega) hf⟩
  · (have hl : (ws.length : Int) = 2 := h1); exact ⟨by kernel_rfl,E1 ws xs k w (by omega) hf⟩
  · (have hl : (ws.length : Int) = 1 := h1); exact ⟨by kernel_rfl,Bi ws xs k w (by omega) hf⟩
  · (have hl : (ws.length : Int) = 1 := h1); exact ⟨by kernel_rfl,E3 ws xs k w (by omega) hf⟩
theorem Ii (op : Int) (ws xs : List Int) (k w : Int) (h : uA op ws k w = true) (hx : xs.length = ws.length) (hin : Bf ws xs = true) : GC (cV op ws xs k w) := by
  obtain ⟨h1,hf,h3⟩ := qo h
  have hb : xj op ws = true := by unfold xj; rw [decide_eq_true h1,hf]; rfl
  rcases sU hb with rfl | rfl | rfl | rfl | rfl | rfl | rfl | rfl | rfl | rfl | rfl | rfl | rfl
  · (have hl : (ws.length : Int) = 0 := h1); exact ⟨by kernel_rfl,CY ws xs k w ⟨by omega,hf,hx,hin⟩⟩
  · (have hl : (ws.length : Int) = 1 := h1); exact ⟨by kernel_rfl,GI ws xs k w ⟨by omega,hf,hx,hin⟩⟩
  · (have hl : (ws.length : Int) = 2 := h1); exact ⟨by kernel_rfl,GJ ws xs k w ⟨by omega,hf,hx,hin⟩⟩
  · (have hl : (ws.length : Int) = 2 := h1); exact ⟨by kernel_rfl,Ie ws xs k w ⟨by omega,hf,hx,hin⟩⟩
  · (have hl : (ws.length : Int) = 2 := h1); exact ⟨by kernel_rfl,GK ws xs k w ⟨by omega,hf,hx,hin⟩⟩
  · (have hl : (ws.length : Int) = 2 := h1); exact ⟨by kernel_rfl,GL ws xs k w ⟨by omega,hf,hx,hin⟩⟩
  · (have hl : (ws.length : Int) = 2 := h1); exact ⟨by kernel_rfl,GM ws xs k w ⟨by omega,hf,hx,hin⟩⟩
  · (have hl : (ws.length : Int) = 2 := h1); exact ⟨by kernel_rfl,Ig ws xs k w ⟨by omega,hf,hx,hin⟩⟩
  · (have hl : (ws.length : Int) = 2 := h1); exact ⟨by kernel_rfl,Ih ws xs k w ⟨by omega,hf,hx,hin⟩⟩
  · (have hl : (ws.length : Int) = 3 := h1); exact ⟨by kernel_rfl,GP ws xs k w ⟨by omega,hf,hx,hin⟩ (z4 h)⟩
  · (have hl : (ws.length : Int) = 2 := h1); exact ⟨by kernel_rfl,GQ ws xs k w ⟨by omega,hf,hx,hin⟩⟩
  · (have hl : (ws.length : Int) = 1 := h1); exact ⟨by kernel_rfl,CZ ws xs k w ⟨by omega,hf,hx,hin⟩ (z5 h)⟩
  · (have hl : (ws.length : Int) = 1 := h1); exact ⟨by kernel_rfl,GN ws xs k w ⟨by omega,hf,hx,hin⟩⟩
theorem sV {op : Int} (h : op = 2 ∨ op = 3 ∨ op = 4 ∨ op = 5 ∨ op = 6 ∨ op = 7 ∨ op = 8 ∨ op = 9) : ∃ (j : Nat) (e : Int × Value),d8[j]? = some e∧op = e.1∧(∀ e' ∈ d8.take j,op ≠ e'.1)∧oJ (D.ofVal e.2) (.agg [(aN op),(.fn (.func (dc op)) [] []),(.fn (.func (de op)) [] [])]) := by
  rcases h with rfl | rfl | rfl | rfl | rfl | rfl | rfl | rfl
  · exact ⟨0,_,rfl,rfl,by decide,⟨rfl,rfl,rfl,oK⟩⟩
  · exact ⟨1,_,rfl,rfl,by decide,⟨rfl,rfl,rfl,oK⟩⟩
  · exact ⟨2,_,rfl,rfl,by decide,⟨rfl,rfl,rfl,oK⟩⟩
  · exact ⟨3,_,rfl,rfl,by decide,⟨rfl,rfl,rfl,oK⟩⟩
  · exact ⟨4,_,rfl,rfl,by decide,⟨rfl,rfl,rfl,oK⟩⟩
  · exact ⟨5,_,rfl,rfl,by decide,⟨rfl,rfl,rfl,oK⟩⟩
  · exact ⟨6,_,rfl,rfl,by decide,⟨rfl,rfl,rfl,oK⟩⟩
  · exact ⟨7,_,rfl,rfl,by decide,⟨rfl,rfl,rfl,oK⟩⟩
theorem sW {op : Int} (h : ¬(op = 2 ∨ op = 3 ∨ op = 4 ∨ op = 5 ∨ op = 6 ∨ op = 7 ∨ op = 8 ∨ op = 9)) : ∀ e' ∈ d8,op ≠ e'.1 := by
  intro e' he'
  simp only [d8,List.mem_cons,List.not_mem_nil,or_false] at he'
  rcases he' with rfl | rfl | rfl | rfl | rfl | rfl | rfl | rfl <;> simp only [ne_eq] <;> omega
theorem sX {op : Int} (h : op = 1 ∨ op = 10 ∨ op = 11 ∨ op = 12 ∨ op = 13) : ∃ (j : Nat) (e : Int × Value),eM[j]? = some e∧op = e.1∧(∀ e' ∈ eM.take j,op ≠ e'.1)∧oJ (D.ofVal e.2) (.agg [(aN op),(.fn (.func (dc op)) [] []),(.fn (.func (de op)) [] [])]) := by
  rcases h with rfl | rfl | rfl | rfl | rfl
  · exact ⟨0,_,rfl,rfl,by decide,⟨rfl,rfl,rfl,oK⟩⟩
  · exact ⟨1,_,rfl,rfl,by decide,⟨rfl,rfl,rfl,oK⟩⟩
  · exact ⟨2,_,rfl,rfl,by decide,⟨rfl,rfl,rfl,oK⟩⟩
  · exact ⟨3,_,rfl,rfl,by decide,⟨rfl,rfl,rfl,oK⟩⟩
  · exact ⟨4,_,rfl,rfl,by decide,⟨rfl,rfl,rfl,oK⟩⟩
theorem yz {op : Int} (h : ¬(op = 1 ∨ op = 10 ∨ op = 11 ∨ op = 12 ∨ op = 13)) : ∀ e' ∈ eM,op ≠ e'.1 := by
  intro e' he'
  simp only [eM,List.mem_cons,List.not_mem_nil,or_false] at he'
  rcases he' with rfl | rfl | rfl | rfl | rfl <;> simp only [ne_eq] <;> omega
abbrev Bk (op : Int) (ws xs : List Int) (k w : Int) : Ct := ⟨77,[(i6 op),(.agg [(LI ws),(LI xs),(i6 k),(i6 w)])],true,(.tup [(.agg [(aN op),(.fn (.func (dc op)) [] []),(.fn (.func (de op)) [] [])]),(i6 (bj op ws k w)),(dB (aw (bj op ws k w)))])⟩
def lh (op : Int) (ws : List Int) (xs : List Int) (k : Int) (w : Int) : St := ⟨[(4,b8),(7,ck),(9,(i6 (bj op ws k w)))],[(.var 173 [(LI ws),(LI xs),(i6 k),(i6 w)]),dj,(.var 176 [(aN op),(.fn (.func (dc op)) [] []),(.fn (.func (de op)) [] [])])]⟩
def qO (op : Int) (ws : List Int) (xs : List Int) (k : Int) (w : Int) : St := ⟨[(4,b8),(7,ck),(9,(i6 (bj op ws k w))),(44,(.agg [(aN op),(.fn (.func (dc op)) [] []),(.fn (.func (de op)) [] [])]))],[(.var 173 [(LI ws),(LI xs),(i6 k),(i6 w)]),dj,(.var 176 [(aN op),(.fn (.func (dc op)) [] []),(.fn (.func (de op)) [] [])])]⟩
def qP (op : Int) (ws : List Int) (xs : List Int) (k : Int) (w : Int) : St := ⟨[(4,b8),(7,ck),(9,(i6 (bj op ws k w))),(45,(i6 (bj op ws k w)))],[(.var 173 [(LI ws),(LI xs),(i6 k),(i6 w)]),dj,(.var 176 [(aN op),(.fn (.func (dc op)) [] []),(.fn (.func (de op)) [] [])])]⟩
def qQ (op : Int) (ws : List Int) (xs : List Int) (k : Int) (w : Int) : St := ⟨[(4,b8),(7,ck),(9,(i6 (bj op ws k w))),(46,(i6 (bj op ws k w)))],[(.var 173 [(LI ws),(LI xs),(i6 k),(i6 w)]),dj,(.var 176 [(aN op),(.fn (.func (dc op)) [] []),(.fn (.func (de op)) [] [])])]⟩
def li (op : Int) (ws : List Int) (xs : List Int) (k : Int) (w : Int) : St := ⟨[(4,b8),(7,ck),(9,(i6 (bj op ws k w))),(44,(.agg [(aN op),(.fn (.func (dc op)) [] []),(.fn (.func (de op)) [] [])])),(45,(i6 (bj op ws k w)))],[(.var 173 [(LI ws),(LI xs),(i6 k),(i6 w)]),dj,(.var 176 [(aN op),(.fn (.func (dc op)) [] []),(.fn (.func (de op)) [] [])])]⟩
def lj (op : Int) (ws : List Int) (xs : List Int) (k : Int) (w : Int) : St := ⟨[(4,b8),(7,ck),(9,(i6 (bj op ws k w))),(44,(.agg [(aN op),(.fn (.func (dc op)) [] []),(.fn (.func (de op)) [] [])])),(46,(i6 (bj op ws k w)))],[(.var 173 [(LI ws),(LI xs),(i6 k),(i6 w)]),dj,(.var 176 [(aN op),(.fn (.func (dc op)) [] []),(.fn (.func (de op)) [] [])])]⟩
def lk (op : Int) (ws : List Int) (xs : List Int) (k : Int) (w : Int) : St := ⟨[(4,b8),(7,ck),(9,(i6 (bj op ws k w))),(45,(i6 (bj op ws k w))),(46,(i6 (bj op ws k w)))],[(.var 173 [(LI ws),(LI xs),(i6 k),(i6 w)]),dj,(.var 176 [(aN op),(.fn (.func (dc op)) [] []),(.fn (.func (de op)) [] [])])]⟩
def qR (op : Int) (ws : List Int) (xs : List Int) (k : Int) (w : Int) : St := ⟨[(4,b8),(7,ck),(9,(i6 (bj op ws k w))),(46,(i6 (bj op ws k w))),(47,(dB (aw (bj op ws k w))))],[(.var 173 [(LI ws),(LI xs),(i6 k),(i6 w)]),dj,(.var 176 [(aN op),(.fn (.func (dc op)) [] []),(.fn (.func (de op)) [] [])])]⟩
def iP (op : Int) (ws : List Int) (xs : List Int) (k : Int) (w : Int) : St := ⟨[(4,b8),(7,ck),(9,(i6 (bj op ws k w))),(44,(.agg [(aN op),(.fn (.func (dc op)) [] []),(.fn (.func (de op)) [] [])])),(45,(i6 (bj op ws k w))),(46,(i6 (bj op ws k w)))],[(.var 173 [(LI ws),(LI xs),(i6 k),(i6 w)]),dj,(.var 176 [(aN op),(.fn (.func (dc op)) [] []),(.fn (.func (de op)) [] [])])]⟩
def ll (op : Int) (ws : List Int) (xs : List Int) (k : Int) (w : Int) : St := ⟨[(4,b8),(7,ck),(9,(i6 (bj op ws k w))),(44,(.agg [(aN op),(.fn (.func (dc op)) [] []),(.fn (.func (de op)) [] [])])),(46,(i6 (bj op ws k w))),(47,(dB (aw (bj op ws k w))))],[(.var 173 [(LI ws),(LI xs),(i6 k),(i6 w)]),dj,(.var 176 [(aN op),(.fn (.func (dc op)) [] []),(.fn (.func (de op)) [] [])])]⟩
def jW (op : Int) (ws : List Int) (xs : List Int) (k : Int) (w : Int) : St := ⟨[(4,b8),(7,ck),(9,(i6 (bj op ws k w))),(45,(i6 (bj op ws k w))),(46,(i6 (bj op ws k w))),(47,(dB (aw (bj op ws k w))))],[(.var 173 [(LI ws),(LI xs),(i6 k),(i6 w)]),dj,(.var 176 [(aN op),(.fn (.func (dc op)) [] []),(.fn (.func (de op)) [] [])])]⟩
def gC (op : Int) (ws : List Int) (xs : List Int) (k : Int) (w : Int) : St := ⟨[(4,b8),(7,ck),(9,(i6 (bj op ws k w))),(44,(.agg [(aN op),(.fn (.func (dc op)) [] []),(.fn (.func (de op)) [] [])])),(45,(i6 (bj op ws k w))),(46,(i6 (bj op ws k w))),(47,(dB (aw (bj op ws k w))))],[(.var 173 [(LI ws),(LI xs),(i6 k),(i6 w)]),dj,(.var 176 [(aN op),(.fn (.func (dc op)) [] []),(.fn (.func (de op)) [] [])])]⟩
def o7 (op : Int) (ws : List Int) (xs : List Int) (k : Int) (w : Int) : St := ⟨[(4,b8),(7,ck),(9,(i6 (bj op ws k w))),(44,(.agg [(aN op),(.fn (.func (dc op)) [] []),(.fn (.func (de op)) [] [])])),(46,(i6 (bj op ws k w))),(47,(dB (aw (bj op ws k w))))],[(.var 173 [(LI ws),(LI xs),(i6 k),(i6 w)]),(.var 176 [(aN op),(.fn (.func (dc op)) [] []),(.fn (.func (de op)) [] [])]),(.var 176 [(aN op),(.fn (.func (dc op)) [] []),(.fn (.func (de op)) [] [])])]⟩
def jX (op : Int) (ws : List Int) (xs : List Int) (k : Int) (w : Int) : St := ⟨[(4,b8),(7,ck),(9,(i6 (bj op ws k w))),(44,(.agg [(aN op),(.fn (.func (dc op)) [] []),(.fn (.func (de op)) [] [])])),(45,(i6 (bj op ws k w))),(46,(i6 (bj op ws k w))),(47,(dB (aw (bj op ws k w))))],[(.var 173 [(LI ws),(LI xs),(i6 k),(i6 w)]),(.var 176 [(aN op),(.fn (.func (dc op)) [] []),(.fn (.func (de op)) [] [])]),(.var 176 [(aN op),(.fn (.func (dc op)) [] []),(.fn (.func (de op)) [] [])])]⟩
def o8 (op : Int) (ws : List Int) (xs : List Int) (k : Int) (w : Int) : St := ⟨[(4,b8),(5,(i6 (bj op ws k w))),(7,ck),(9,(i6 (bj op ws k w))),(44,(.agg [(aN op),(.fn (.func (dc op)) [] []),(.fn (.func (de op)) [] [])])),(45,(i6 (bj op ws k w))),(46,(i6 (bj op ws k w))),(47,(dB (aw (bj op ws k w))))],[(.var 173 [(LI ws),(LI xs),(i6 k),(i6 w)]),(.var 176 [(aN op),(.fn (.func (dc op)) [] []),(.fn (.func (de op)) [] [])]),(.var 176 [(aN op),(.fn (.func (dc op)) [] []),(.fn (.func (de op)) [] [])])]⟩
def o9 (op : Int) (ws : List Int) (xs : List Int) (k : Int) (w : Int) : St := ⟨[(4,b8),(5,(i6 (bj op ws k w))),(6,(dB (aw (bj op ws k w))))],[(.var 173 [(LI ws),(LI xs),(i6 k),(i6 w)]),(.var 176 [(aN op),(.fn (.func (dc op)) [] []),(.fn (.func (de op)) [] [])]),(.var 176 [(aN op),(.fn (.func (dc op)) [] []),(.fn (.func (de op)) [] [])])]⟩
def jY (op : Int) (ws : List Int) (xs : List Int) (k : Int) (w : Int) : St := ⟨[(4,b8),(7,ck),(9,(i6 (bj op ws k w)))],[(.var 173 [(LI ws),(LI xs),(i6 k),(i6 w)]),dj,(.var 176 [(aN op),(.fn (.func (dc op)) [] []),(.fn (.func (de op)) [] [])])]⟩
def pb (op : Int) (ws : List Int) (xs : List Int) (k : Int) (w : Int) : St := ⟨[(4,b8),(7,ck),(9,(i6 (bj op ws k w))),(44,(.agg [(aN op),(.fn (.func (dc op)) [] []),(.fn (.func (de op)) [] [])]))],[(.var 173 [(LI ws),(LI xs),(i6 k),(i6 w)]),dj,(.var 176 [(aN op),(.fn (.func (dc op)) [] []),(.fn (.func (de op)) [] [])])]⟩
def pc (op : Int) (ws : List Int) (xs : List Int) (k : Int) (w : Int) : St := ⟨[(4,b8),(7,ck),(9,(i6 (bj op ws k w))),(45,(i6 (bj op ws k w)))],[(.var 173 [(LI ws),(LI xs),(i6 k),(i6 w)]),dj,(.var 176 [(aN op),(.fn (.func (dc op)) [] []),(.fn (.func (de op)) [] [])])]⟩
def pg (op : Int) (ws : List Int) (xs : List Int) (k : Int) (w : Int) : St := ⟨[(4,b8),(7,ck),(9,(i6 (bj op ws k w))),(46,(i6 (bj op ws k w)))],[(.var 173 [(LI ws),(LI xs),(i6 k),(i6 w)]),dj,(.var 176 [(aN op),(.fn (.func (dc op)) [] []),(.fn (.func (de op)) [] [])])]⟩
def jZ (op : Int) (ws : List Int) (xs : List Int) (k : Int) (w : Int) : St := ⟨[(4,b8),(7,ck),(9,(i6 (bj op ws k w))),(44,(.agg [(aN op),(.fn (.func (dc op)) [] []),(.fn (.func (de op)) [] [])])),(45,(i6 (bj op ws k w)))],[(.var 173 [(LI ws),(LI xs),(i6 k),(i6 w)]),dj,(.var 176 [(aN op),(.fn (.func (dc op)) [] []),(.fn (.func (de op)) [] [])])]⟩
def j5 (op : Int) (ws : List Int) (xs : List Int) (k : Int) (w : Int) : St := ⟨[(4,b8),(7,ck),(9,(i6 (bj op ws k w))),(44,(.agg [(aN op),(.fn (.func (dc op)) [] []),(.fn (.func (de op)) [] [])])),(46,(i6 (bj op ws k w)))],[(.var 173 [(LI ws),(LI xs),(i6 k),(i6 w)]),dj,(.var 176 [(aN op),(.fn (.func (dc op)) [] []),(.fn (.func (de op)) [] [])])]⟩
def j6 (op : Int) (ws : List Int) (xs : List Int) (k : Int) (w : Int) : St := ⟨[(4,b8),(7,ck),(9,(i6 (bj op ws k w))),(45,(i6 (bj op ws k w))),(46,(i6 (bj op ws k w)))],[(.var 173 [(LI ws),(LI xs),(i6 k),(i6 w)]),dj,(.var 176 [(aN op),(.fn (.func (dc op)) [] []),(.fn (.func (de op)) [] [])])]⟩
def ph (op : Int) (ws : List Int) (xs : List Int) (k : Int) (w : Int) : St := ⟨[(4,b8),(7,ck),(9,(i6 (bj op ws k w))),(46,(i6 (bj op ws k w))),(47,(dB (aw (bj op ws k w))))],[(.var 173 [(LI ws),(LI xs),(i6 k),(i6 w)]),dj,(.var 176 [(aN op),(.fn (.func (dc op)) [] []),(.fn (.func (de op)) [] [])])]⟩
def gD (op : Int) (ws : List Int) (xs : List Int) (k : Int) (w : Int) : St := ⟨[(4,b8),(7,ck),(9,(i6 (bj op ws k w))),(44,(.agg [(aN op),(.fn (.func (dc op)) [] []),(.fn (.func (de op)) [] [])])),(45,(i6 (bj op ws k w))),(46,(i6 (bj op ws k w)))],[(.var 173 [(LI ws),(LI xs),(i6 k),(i6 w)]),dj,(.var 176 [(aN op),(.fn (.func (dc op)) [] []),(.fn (.func (de op)) [] [])])]⟩
def j7 (op : Int) (ws : List Int) (xs : List Int) (k : Int) (w : Int) : St := ⟨[(4,b8),(7,ck),(9,(i6 (bj op ws k w))),(44,(.agg [(aN op),(.fn (.func (dc op)) [] []),(.fn (.func (de op)) [] [])])),(46,(i6 (bj op ws k w))),(47,(dB (aw (bj op ws k w))))],[(.var 173 [(LI ws),(LI xs),(i6 k),(i6 w)]),dj,(.var 176 [(aN op),(.fn (.func (dc op)) [] []),(.fn (.func (de op)) [] [])])]⟩
def i5 (op : Int) (ws : List Int) (xs : List Int) (k : Int) (w : Int) : St := ⟨[(4,b8),(7,ck),(9,(i6 (bj op ws k w))),(45,(i6 (bj op ws k w))),(46,(i6 (bj op ws k w))),(47,(dB (aw (bj op ws k w))))],[(.var 173 [(LI ws),(LI xs),(i6 k),(i6 w)]),dj,(.var 176 [(aN op),(.fn (.func (dc op)) [] []),(.fn (.func (de op)) [] [])])]⟩
def fN (op : Int) (ws : List Int) (xs : List Int) (k : Int) (w : Int) : St := ⟨[(4,b8),(7,ck),(9,(i6 (bj op ws k w))),(44,(.agg [(aN op),(.fn (.func (dc op)) [] []),(.fn (.func (de op)) [] [])])),(45,(i6 (bj op ws k w))),(46,(i6 (bj op ws k w))),(47,(dB (aw (bj op ws k w))))],[(.var 173 [(LI ws),(LI xs),(i6 k),(i6 w)]),dj,(.var 176 [(aN op),(.fn (.func (dc op)) [] []),(.fn (.func (de op)) [] [])])]⟩
def ni (op : Int) (ws : List Int) (xs : List Int) (k : Int) (w : Int) : St := ⟨[(4,b8),(7,ck),(9,(i6 (bj op ws k w))),(44,(.agg [(aN op),(.fn (.func (dc op)) [] []),(.fn (.func (de op)) [] [])])),(46,(i6 (bj op ws k w))),(47,(dB (aw (bj op ws k w))))],[(.var 173 [(LI ws),(LI xs),(i6 k),(i6 w)]),(.var 176 [(aN op),(.fn (.func (dc op)) [] []),(.fn (.func (de op)) [] [])]),(.var 176 [(aN op),(.fn (.func (dc op)) [] []),(.fn (.func (de op)) [] [])])]⟩
def i7 (op : Int) (ws : List Int) (xs : List Int) (k : Int) (w : Int) : St := ⟨[(4,b8),(7,ck),(9,(i6 (bj op ws k w))),(44,(.agg [(aN op),(.fn (.func (dc op)) [] []),(.fn (.func (de op)) [] [])])),(45,(i6 (bj op ws k w))),(46,(i6 (bj op ws k w))),(47,(dB (aw (bj op ws k w))))],[(.var 173 [(LI ws),(LI xs),(i6 k),(i6 w)]),(.var 176 [(aN op),(.fn (.func (dc op)) [] []),(.fn (.func (de op)) [] [])]),(.var 176 [(aN op),(.fn (.func (dc op)) [] []),(.fn (.func (de op)) [] [])])]⟩
def nj (op : Int) (ws : List Int) (xs : List Int) (k : Int) (w : Int) : St := ⟨[(4,b8),(5,(i6 (bj op ws k w))),(7,ck),(9,(i6 (bj op ws k w))),(44,(.agg [(aN op),(.fn (.func (dc op)) [] []),(.fn (.func (de op)) [] [])])),(45,(i6 (bj op ws k w))),(46,(i6 (bj op ws k w))),(47,(dB (aw (bj op ws k w))))],[(.var 173 [(LI ws),(LI xs),(i6 k),(i6 w)]),(.var 176 [(aN op),(.fn (.func (dc op)) [] []),(.fn (.func (de op)) [] [])]),(.var 176 [(aN op),(.fn (.func (dc op)) [] []),(.fn (.func (de op)) [] [])])]⟩
def nk (op : Int) (ws : List Int) (xs : List Int) (k : Int) (w : Int) : St := ⟨[(4,b8),(5,(i6 (bj op ws k w))),(6,(dB (aw (bj op ws k w))))],[(.var 173 [(LI ws),(LI xs),(i6 k),(i6 w)]),(.var 176 [(aN op),(.fn (.func (dc op)) [] []),(.fn (.func (de op)) [] [])]),(.var 176 [(aN op),(.fn (.func (dc op)) [] []),(.fn (.func (de op)) [] [])])]⟩
theorem uF (op : Int) (ws xs : List Int) (k w : Int) (hw : ws.length ≤ 9223372036854775807) (h : xj op ws = true) : CC (Bk op ws xs k w) := by
 obtain ⟨h1,h2⟩ := vM h
 have hop := sU h
 refine ai.vc (V := TT 4 (CS (op = 2 ∨ op = 3 ∨ op = 4 ∨ op = 5 ∨ op = 6 ∨ op = 7 ∨ op = 8 ∨ op = 9) (CC E4∧TT 1 ((∃ (j : Nat) (e : Int × Value),d8[j]? = some e∧op = e.1∧(∀ e' ∈ d8.take j,op ≠ e'.1)∧oJ (D.ofVal e.2) (.agg [(aN op),(.fn (.func (dc op)) [] []),(.fn (.func (de op)) [] [])]))∧TT 18 ((True∧(!decide ((ws.length : Int) = (bB op))) = false)∧TT 2 (CC (EY ws)∧TT 1 ((!(ws.all aw)) = false∧TT 3 (GC (cW op ws xs k w)∧TT 1 ((lh op ws xs k w) = (lh op ws xs k w)∧(((sE (qO op ws xs k w) (True))∧(sE (qP op ws xs k w) (True))∧(sE (qQ op ws xs k w) (True))∧True)∧((sE (li op ws xs k w) (True))∧(sE (lj op ws xs k w) (True))∧True)∧((sE (li op ws xs k w) (True))∧(sE (lk op ws xs k w) (True))∧True)∧((sE (lj op ws xs k w) (True))∧(sE (lk op ws xs k w) (True))∧(sE (qR op ws xs k w) (CC (rj (bj op ws k w))))∧True)∧((sE (iP op ws xs k w) (True))∧True)∧((sE (iP op ws xs k w) (True))∧(sE (ll op ws xs k w) (CC (rj (bj op ws k w))))∧True)∧((sE (iP op ws xs k w) (True))∧(sE (jW op ws xs k w) (CC (rj (bj op ws k w))))∧True)∧((sE (ll op ws xs k w) (True))∧(sE (jW op ws xs k w) (True))∧True)∧((sE (gC op ws xs k w) (CC (rj (bj op ws k w))))∧True)∧((sE (gC op ws xs k w) (True))∧(sE (o7 op ws xs k w) (True))∧True)∧((sE (gC op ws xs k w) (True))∧True)∧((sE (jX op ws xs k w) (True))∧True)∧((sE (jX op ws xs k w) (True))∧True)∧((sE (o8 op ws xs k w) (True))∧True)∧((sE (o9 op ws xs k w) (True))∧True)∧True∧True)∧TT 3 (((bB op) = (bB op)∧((.fn (.func (dc op)) [] []) : D) = (.fn (.func (dc op)) [] [])∧((.fn (.func (de op)) [] []) : D) = (.fn (.func (de op)) [] [])∧True)∧(bj op ws k w) = (bj op ws k w)∧(aw (bj op ws k w)) = (aw (bj op ws k w))∧True)))))))) (CC E4∧TT 1 ((∀ e' ∈ d8,op ≠ e'.1)∧TT 8 (CC GR∧TT 1 ((∃ (j : Nat) (e : Int × Value),eM[j]? = some e∧op = e.1∧(∀ e' ∈ eM.take j,op ≠ e'.1)∧oJ (D.ofVal e.2) (.agg [(aN op),(.fn (.func (dc op)) [] []),(.fn (.func (de op)) [] [])]))∧TT 15 ((True∧(!decide ((ws.length : Int) = (bB op))) = false)∧TT 2 (CC (EY ws)∧TT 1 ((!(ws.all aw)) = false∧TT 3 (GC (cW op ws xs k w)∧TT 1 ((jY op ws xs k w) = (jY op ws xs k w)∧(((sE (pb op ws xs k w) (True))∧(sE (pc op ws xs k w) (True))∧(sE (pg op ws xs k w) (True))∧True)∧((sE (jZ op ws xs k w) (True))∧(sE (j5 op ws xs k w) (True))∧True)∧((sE (jZ op ws xs k w) (True))∧(sE (j6 op ws xs k w) (True))∧True)∧((sE (j5 op ws xs k w) (True))∧(sE (j6 op ws xs k w) (True))∧(sE (ph op ws xs k w) (CC (rj (bj op ws k w))))∧True)∧((sE (gD op ws xs k w) (True))∧True)∧((sE (gD op ws xs k w) (True))∧(sE (j7 op ws xs k w) (CC (rj (bj op ws k w))))∧True)∧((sE (gD op ws xs k w) (True))∧(sE (i5 op ws xs k w) (CC (rj (bj op ws k w))))∧True)∧((sE (j7 op ws xs k w) (True))∧(sE (i5 op ws xs k w) (True))∧True)∧((sE (fN op ws xs k w) (CC (rj (bj op ws k w))))∧True)∧((sE (fN op ws xs k w) (True))∧(sE (ni op ws xs k w) (True))∧True)∧((sE (fN op ws xs k w) (True))∧True)∧((sE (i7 op ws xs k w) (True))∧True)∧((sE (i7 op ws xs k w) (True))∧True)∧((sE (nj op ws xs k w) (True))∧True)∧((sE (nk op ws xs k w) (True))∧True)∧True∧True)∧TT 3 (((bB op) = (bB op)∧((.fn (.func (dc op)) [] []) : D) = (.fn (.func (dc op)) [] [])∧((.fn (.func (de op)) [] []) : D) = (.fn (.func (de op)) [] [])∧True)∧(bj op ws k w) = (bj op ws k w)∧(aw (bj op ws k w)) = (aw (bj op ws k w))∧True)))))))))))) (.s 1 (op = 2 ∨ op = 3 ∨ op = 4 ∨ op = 5 ∨ op = 6 ∨ op = 7 ∨ op = 8 ∨ op = 9) (.w 1 [(0,E4.O),(2,.ent (.agg [(aN op),(.fn (.func (dc op)) [] []),(.fn (.func (de op)) [] [])]))] <| .w 4 [(10,.val (dB false)),(13,(EY ws).O)] <| .u 38 (.w 6 [(3,.callg none false (i6 (bj op ws k w)))] <| .y 7 [(3,(rj (bj op ws k w)).O)] [((bm 7 0),(lh op ws xs k w)),((bm 7 1),(qO op ws xs k w)),((bm 7 2),(qP op ws xs k w)),((bm 7 4),(qQ op ws xs k w)),((bm 7 3),(li op ws xs k w)),((bm 7 5),(lj op ws xs k w)),((bm 7 6),(lk op ws xs k w)),((bm 7 12),(qR op ws xs k w)),((bm 7 7),(iP op ws xs k w)),((bm 7 13),(ll op ws xs k w)),((bm 7 14),(jW op ws xs k w)),((bm 7 15),(gC op ws xs k w)),((bm 7 29),(o7 op ws xs k w)),((bm 7 31),(jX op ws xs k w)),((bm 7 63),(o8 op ws xs k w)),((bm 7 127),(o9 op ws xs k w))] <| .e)) (.w 1 [(0,E4.O),(2,.idx none)] <| .w 3 [(0,GR.O),(2,.ent (.agg [(aN op),(.fn (.func (dc op)) [] []),(.fn (.func (de op)) [] [])]))] <| .w 4 [(10,.val (dB false)),(13,(EY ws).O)] <| .u 38 (.w 6 [(3,.callg none false (i6 (bj op ws k w)))] <| .y 7 [(3,(rj (bj op ws k w)).O)] [((bm 7 0),(jY op ws xs k w)),((bm 7 1),(pb op ws xs k w)),((bm 7 2),(pc op ws xs k w)),((bm 7 4),(pg op ws xs k w)),((bm 7 3),(jZ op ws xs k w)),((bm 7 5),(j5 op ws xs k w)),((bm 7 6),(j6 op ws xs k w)),((bm 7 12),(ph op ws xs k w)),((bm 7 7),(gD op ws xs k w)),((bm 7 13),(j7 op ws xs k w)),((bm 7 14),(i5 op ws xs k w)),((bm 7 15),(fN op ws xs k w)),((bm 7 29),(ni op ws xs k w)),((bm 7 31),(i7 op ws xs k w)),((bm 7 63),(nj op ws xs k w)),((bm 7 127),(nk op ws xs k w))] <| .e))) Try.func77 rfl rfl rfl (by kernel_rfl) ?_
 refine tt ⟨fun hs0 => ?_,fun hs0 => ?_⟩
 · have hS := hs0
   exact ⟨md,tt ⟨(sV hS),tt ⟨(nF h1),tt ⟨(iM ws hw),tt ⟨(CJ h2),tt ⟨(F0 op ws xs k w h),tt ⟨rfl,⟨⟨⟨⟨rfl,oK,oK⟩,⟨rfl,oK,oK⟩,⟨rfl,oK,oK⟩,oK⟩,⟨⟨rfl,oK,oK⟩,⟨rfl,oK,oK⟩,oK⟩,⟨⟨rfl,oK,oK⟩,⟨rfl,oK,oK⟩,oK⟩,⟨⟨rfl,oK,oK⟩,⟨rfl,oK,oK⟩,⟨rfl,(cY (bj op ws k w)),oK⟩,oK⟩,⟨⟨rfl,oK,oK⟩,oK⟩,⟨⟨rfl,oK,oK⟩,⟨rfl,(cY (bj op ws k w)),oK⟩,oK⟩,⟨⟨rfl,oK,oK⟩,⟨rfl,(cY (bj op ws k w)),oK⟩,oK⟩,⟨⟨rfl,oK,oK⟩,⟨rfl,oK,oK⟩,oK⟩,⟨⟨rfl,(cY (bj op ws k w)),oK⟩,oK⟩,⟨⟨rfl,oK,oK⟩,⟨rfl,oK,oK⟩,oK⟩,⟨⟨rfl,oK,oK⟩,oK⟩,⟨⟨rfl,oK,oK⟩,oK⟩,⟨⟨rfl,oK,oK⟩,oK⟩,⟨⟨rfl,oK,oK⟩,oK⟩,⟨⟨rfl,oK,oK⟩,oK⟩,oK,oK⟩,tt ⟨⟨rfl,rfl,rfl,oK⟩,rfl,rfl,oK⟩⟩⟩⟩⟩⟩⟩⟩⟩
 · have hS := hs0
   exact ⟨md,tt ⟨(sW hS),tt ⟨qp,tt ⟨(sX (by omega)),tt ⟨(nF h1),tt ⟨(iM ws hw),tt ⟨(CJ h2),tt ⟨(F0 op ws xs k w h),tt ⟨rfl,⟨⟨⟨⟨rfl,oK,oK⟩,⟨rfl,oK,oK⟩,⟨rfl,oK,oK⟩,oK⟩,⟨⟨rfl,oK,oK⟩,⟨rfl,oK,oK⟩,oK⟩,⟨⟨rfl,oK,oK⟩,⟨rfl,oK,oK⟩,oK⟩,⟨⟨rfl,oK,oK⟩,⟨rfl,oK,oK⟩,⟨rfl,(cY (bj op ws k w)),oK⟩,oK⟩,⟨⟨rfl,oK,oK⟩,oK⟩,⟨⟨rfl,oK,oK⟩,⟨rfl,(cY (bj op ws k w)),oK⟩,oK⟩,⟨⟨rfl,oK,oK⟩,⟨rfl,(cY (bj op ws k w)),oK⟩,oK⟩,⟨⟨rfl,oK,oK⟩,⟨rfl,oK,oK⟩,oK⟩,⟨⟨rfl,(cY (bj op ws k w)),oK⟩,oK⟩,⟨⟨rfl,oK,oK⟩,⟨rfl,oK,oK⟩,oK⟩,⟨⟨rfl,oK,oK⟩,oK⟩,⟨⟨rfl,oK,oK⟩,oK⟩,⟨⟨rfl,oK,oK⟩,oK⟩,⟨⟨rfl,oK,oK⟩,oK⟩,⟨⟨rfl,oK,oK⟩,oK⟩,oK,oK⟩,tt ⟨⟨rfl,rfl,rfl,oK⟩,rfl,rfl,oK⟩⟩⟩⟩⟩⟩⟩⟩⟩⟩⟩
abbrev Bl (op : Int) (ws xs : List Int) (k w : Int) : Ct := ⟨77,[(i6 op),(.agg [(LI ws),(LI xs),(i6 k),(i6 w)])],true,(.tup [(.agg [(i6 0),(.v .nilf),(.v .nilf)]),(i6 0),(dB false)])⟩
theorem uG (op : Int) (ws xs : List Int) (k w : Int) (hw : ws.length ≤ 9223372036854775807) (h : xj op ws = false) : CC (Bl op ws xs k w) := by
 refine ai.vc (V := TT 4 (CS (op = 2 ∨ op = 3 ∨ op = 4 ∨ op = 5 ∨ op = 6 ∨ op = 7 ∨ op = 8 ∨ op = 9) (CC E4∧TT 1 ((∃ (j : Nat) (e : Int × Value),d8[j]? = some e∧op = e.1∧(∀ e' ∈ d8.take j,op ≠ e'.1)∧oJ (D.ofVal e.2) (.agg [(aN op),(.fn (.func (dc op)) [] []),(.fn (.func (de op)) [] [])]))∧TT 8 (CS ((ws.length : Int) = (bB op)) (TT 10 ((True∧(!decide ((ws.length : Int) = (bB op))) = false)∧TT 2 (CC (EY ws)∧TT 1 ((!(ws.all aw)) = true∧TT 7 (((0 : Int) = 0∧True∧True∧True)∧(0 : Int) = 0∧false = false∧True))))) (TT 10 ((True∧(!decide ((ws.length : Int) = (bB op))) = true)∧TT 11 (((0 : Int) = 0∧True∧True∧True)∧(0 : Int) = 0∧false = false∧True)))))) (CC E4∧TT 1 ((∀ e' ∈ d8,op ≠ e'.1)∧TT 8 (CS (op = 1 ∨ op = 10 ∨ op = 11 ∨ op = 12 ∨ op = 13) (CC GR∧TT 1 ((∃ (j : Nat) (e : Int × Value),eM[j]? = some e∧op = e.1∧(∀ e' ∈ eM.take j,op ≠ e'.1)∧oJ (D.ofVal e.2) (.agg [(aN op),(.fn (.func (dc op)) [] []),(.fn (.func (de op)) [] [])]))∧TT 5 (CS ((ws.length : Int) = (bB op)) (TT 10 ((True∧(!decide ((ws.length : Int) = (bB op))) = false)∧TT 2 (CC (EY ws)∧TT 1 ((!(ws.all aw)) = true∧TT 7 (((0 : Int) = 0∧True∧True∧True)∧(0 : Int) = 0∧false = false∧True))))) (TT 10 ((True∧(!decide ((ws.length : Int) = (bB op))) = true)∧TT 11 (((0 : Int) = 0∧True∧True∧True)∧(0 : Int) = 0∧false = false∧True)))))) (CC GR∧TT 1 ((∀ e' ∈ eM,op ≠ e'.1)∧TT 27 (((0 : Int) = 0∧True∧True∧True)∧(0 : Int) = 0∧false = false∧True)))))))) (.s 1 (op = 2 ∨ op = 3 ∨ op = 4 ∨ op = 5 ∨ op = 6 ∨ op = 7 ∨ op = 8 ∨ op = 9) (.w 1 [(0,E4.O),(2,.ent (.agg [(aN op),(.fn (.func (dc op)) [] []),(.fn (.func (de op)) [] [])]))] <| .s 4 ((ws.length : Int) = (bB op)) (.w 4 [(10,.val (dB false)),(13,(EY ws).O)] <| .t 38 (.e)) (.w 4 [(10,.val (dB true))] <| .e)) (.w 1 [(0,E4.O),(2,.idx none)] <| .s 3 (op = 1 ∨ op = 10 ∨ op = 11 ∨ op = 12 ∨ op = 13) (.w 3 [(0,GR.O),(2,.ent (.agg [(aN op),(.fn (.func (dc op)) [] []),(.fn (.func (de op)) [] [])]))] <| .s 4 ((ws.length : Int) = (bB op)) (.w 4 [(10,.val (dB false)),(13,(EY ws).O)] <| .t 38 (.e)) (.w 4 [(10,.val (dB true))] <| .e)) (.w 3 [(0,GR.O),(2,.idx none)] <| .e))) Try.func77 rfl rfl rfl (by kernel_rfl) ?_
 refine tt ⟨fun hs0 => ?_,fun hs0 => ?_⟩
 · have hS := hs0
   refine ⟨md,tt ⟨(sV hS),tt ⟨fun hs1 => ?_,fun hs1 => ?_⟩⟩⟩
   · exact tt ⟨(nF hs1),tt ⟨(iM ws hw),tt ⟨(I9 (by rcases CR h with h5 | ⟨_,h5⟩; exact absurd (by assumption) h5; rw [h5]; simp)),tt ⟨⟨rfl,oK,oK,oK⟩,rfl,rfl,oK⟩⟩⟩⟩
   · exact tt ⟨(nT hs1),tt ⟨⟨rfl,oK,oK,oK⟩,rfl,rfl,oK⟩⟩
 · have hS := hs0
   refine ⟨md,tt ⟨(sW hS),tt ⟨fun hs2 => ?_,fun hs2 => ?_⟩⟩⟩
   · have hO := hs2
     refine ⟨qp,tt ⟨(sX hO),tt ⟨fun hs3 => ?_,fun hs3 => ?_⟩⟩⟩
     · exact tt ⟨(nF hs3),tt ⟨(iM ws hw),tt ⟨(I9 (by rcases CR h with h5 | ⟨_,h5⟩; exact absurd (by assumption) h5; rw [h5]; simp)),tt ⟨⟨rfl,oK,oK,oK⟩,rfl,rfl,oK⟩⟩⟩⟩
     · exact tt ⟨(nT hs3),tt ⟨⟨rfl,oK,oK,oK⟩,rfl,rfl,oK⟩⟩
   · have hO := hs2
     exact ⟨qp,tt ⟨(yz hO),tt ⟨⟨rfl,oK,oK,oK⟩,rfl,rfl,oK⟩⟩⟩
theorem oc {op : Int} {ws : List Int} {k w : Int} (h : xj op ws = true) (h2 : aw (bj op ws k w) = true) : uA op ws k w = true := by rw [yy,h,h2]; rfl
theorem bZ {op : Int} {ws : List Int} {k w : Int} (h : ¬xj op ws = true) : uA op ws k w = false := by rw [yy,Bool.eq_false_iff.2 h]; rfl
theorem b5 {op : Int} {ws : List Int} {k w : Int} (h2 : ¬aw (bj op ws k w) = true) : uA op ws k w = false := by rw [yy,Bool.eq_false_iff.2 h2,Bool.and_false]
theorem kA {op : Int} {ws : List Int} {k w : Int} (h : uA op ws k w = false) : 0 = fA op ws k w∧1 = lg op ws k w := by unfold fA lg; rw [h]; exact ⟨rfl,rfl⟩
theorem qq {op : Int} {ws : List Int} {k w : Int} (h : uA op ws k w = true) : bj op ws k w = fA op ws k w∧0 = lg op ws k w := by unfold fA lg; rw [h]; exact ⟨rfl,rfl⟩
abbrev Jk (op : Int) (ws : List Int) (k w : Int) : Ct := ⟨72,[(i6 op),(LI ws),(.agg [(i6 k),(i6 w)])],false,(.tup [(i6 (fA op ws k w)),(i6 (lg op ws k w))])⟩
theorem C0 (op : Int) (ws : List Int) (k w : Int) (hw : ws.length ≤ 9223372036854775807) : CC (Jk op ws k w) := by
 refine ai.vc (V := TT 3 (CS (xj op ws = true) (TT 2 (((0 ≤ (0 : Int)∧0 < (2 : Int))∧True)∧TT 1 (((0 ≤ (1 : Int)∧1 < (2 : Int))∧True)∧TT 2 ((xP [] [(i6 op),(.agg [(LI ws),.nils,(i6 k),(i6 w)])] (Bk op ws [] k w).as∧CC (Bk op ws [] k w))∧TT 10 (CB (!(aw (bj op ws k w))) (TT 4 (((0 : Int) = (fA op ws k w)∧(1 : Int) = (lg op ws k w)∧True)∧(True∧True∧True))) (TT 5 (((bj op ws k w) = (fA op ws k w)∧(0 : Int) = (lg op ws k w)∧True)∧(True∧True∧True)))))))) (TT 2 (((0 ≤ (0 : Int)∧0 < (2 : Int))∧True)∧TT 1 (((0 ≤ (1 : Int)∧1 < (2 : Int))∧True)∧TT 2 ((xP [] [(i6 op),(.agg [(LI ws),.nils,(i6 k),(i6 w)])] (Bl op ws [] k w).as∧CC (Bl op ws [] k w))∧TT 14 (((0 : Int) = (fA op ws k w)∧(1 : Int) = (lg op ws k w)∧True)∧(True∧True∧True)))))))) (.s 1 (xj op ws = true) (.w 1 [(7,(Bk op ws [] k w).O')] <| .b 24 (.e) (.e)) (.w 1 [(7,(Bl op ws [] k w).O')] <| .e)) Try.func72 rfl rfl rfl (by kernel_rfl) ?_
 refine tt ⟨fun hs0 => ?_,fun hs0 => ?_⟩
 · have hb := hs0
   refine tt ⟨⟨by omega,oK⟩,tt ⟨⟨by omega,oK⟩,tt ⟨⟨⟨rfl,⟨rfl,rfl,rfl,rfl,oK⟩,oK⟩,(uF op ws [] k w hw hb)⟩,tt ⟨fun hc24 => ?_,fun hc24 => ?_⟩⟩⟩⟩
   · refine tt ⟨⟨?_,?_,oK⟩,⟨oK,oK,oK⟩⟩
     all_goals (first | exact (kA (bZ hb)).1 | exact (kA (bZ hb)).2 | exact (kA (b5 (by simpa using hc24))).1 | exact (kA (b5 (by simpa using hc24))).2 | exact (qq (oc hb (by simpa using hc24))).1 | exact (qq (oc hb (by simpa using hc24))).2)
   · refine tt ⟨⟨?_,?_,oK⟩,⟨oK,oK,oK⟩⟩
     all_goals (first | exact (kA (bZ hb)).1 | exact (kA (bZ hb)).2 | exact (kA (b5 (by simpa using hc24))).1 | exact (kA (b5 (by simpa using hc24))).2 | exact (qq (oc hb (by simpa using hc24))).1 | exact (qq (oc hb (by simpa using hc24))).2)
 · have hb := hs0
   refine tt ⟨⟨by omega,oK⟩,tt ⟨⟨by omega,oK⟩,tt ⟨⟨⟨rfl,⟨rfl,rfl,rfl,rfl,oK⟩,oK⟩,(uG op ws [] k w hw (Bool.eq_false_iff.2 hb))⟩,tt ⟨⟨?_,?_,oK⟩,⟨oK,oK,oK⟩⟩⟩⟩⟩
   all_goals (first | exact (kA (bZ hb)).1 | exact (kA (bZ hb)).2 | exact (kA (b5 (by simpa using hc24))).1 | exact (kA (b5 (by simpa using hc24))).2 | exact (qq (oc hb (by simpa using hc24))).1 | exact (qq (oc hb (by simpa using hc24))).2)
abbrev Jl (op : Int) (ws xs nums : List Int) : Ct := ⟨71,[(i6 op),(LI ws),(LI xs),(LI nums)],false,(.tup [(i6 (db op ws xs nums)),(i6 (gg op ws xs nums))])⟩
abbrev pi (op : Int) (ws : List Int) (xs : List Int) (nums : List Int) : Lp (Nat) := pT [1,10,11,44,45,46] 11 (fun (i : Nat) => ⟨[(1,(LI ws)),(10,(.ptr 9 0 0 0)),(11,(.ptr 10 0 0 0)),(44,(LI xs)),(45,(i6 (xs.length : Int))),(46,(i6 (i : Int)))],[.dead,.dead,.dead,.dead,.dead,.dead,.dead,.dead,.dead,(.var 173 [(LI ws),(LI xs),(i6 (nums.getD 0 0)),(i6 (nums.getD 1 0))]),(.var 176 [(aN op),(.fn (.func (dc op)) [] []),(.fn (.func (de op)) [] [])])]⟩) (fun (i : Nat) => i ≤ xs.length∧∀ j,j < i → 0 ≤ xs.getD j 0∧xs.getD j 0 ≤ ak (ws.getD j 0)) (fun (i : Nat) => xs.length - i)
theorem C2 (op : Int) (ws xs nums : List Int) (hwl : ws.length ≤ 9223372036854775807) (hxl0 : xs.length ≤ 9223372036854775807) : CC (Jl op ws xs nums) := by
 refine ai.vc (V := TT 2 (CS ((nums.length : Int) = 2) (TT 3 ((True∧(!decide ((nums.length : Int) = 2)) = false)∧TT 6 (CN ((xs.length : Int) = (ws.length : Int)) (TT 4 (((0 : Int) = (db op ws xs nums)∧(1 : Int) = (gg op ws xs nums)∧True)∧(True∧True∧True))) (TT 3 (IX 0 nums.length∧TT 2 (IX 1 nums.length∧TT 4 (CS (xj op ws = true) (TT 2 (CC (Bk op ws xs (nums.getD 0 0) (nums.getD 1 0))∧TT 10 (CB (!(aw (bj op ws (nums.getD 0 0) (nums.getD 1 0)))) (TT 4 (((0 : Int) = (db op ws xs nums)∧(1 : Int) = (gg op ws xs nums)∧True)∧(True∧True∧True))) (TT 3 (GO (pi op ws xs nums) 0 (∀ i,(pi op ws xs nums).inv i → TT 1 (CD ((i : Int) < (xs.length : Int)) (TT 1 (IX (i : Int) xs.length∧TT 3 (CS ((xs.getD i 0) < 0) (TT 2 ((True∧(decide ((xs.getD i 0) < 0)) = true)∧TT 12 (((0 : Int) = (db op ws xs nums)∧(1 : Int) = (gg op ws xs nums)∧True)∧(True∧True∧True)))) (TT 2 ((True∧(decide ((xs.getD i 0) < 0)) = false)∧TT 3 (IX (i : Int) ws.length∧TT 1 (CC (EX (ws.getD i 0))∧TT 2 (CD ((xs.getD i 0) > (ak (ws.getD i 0))) (TT 4 (((0 : Int) = (db op ws xs nums)∧(1 : Int) = (gg op ws xs nums)∧True)∧(True∧True∧True))) (W6 ((i + 1 : Nat) : Int)∧TT 1 (AG (pi op ws xs nums) i (i + 1))))))))))) (TT 3 (GC (cV op ws xs (nums.getD 0 0) (nums.getD 1 0))∧TT 4 (((mU op ws xs (nums.getD 0 0) (nums.getD 1 0)) = (db op ws xs nums)∧(0 : Int) = (gg op ws xs nums)∧True)∧(True∧True∧True))))))))))) (TT 2 (CC (Bl op ws xs (nums.getD 0 0) (nums.getD 1 0))∧TT 14 (((0 : Int) = (db op ws xs nums)∧(1 : Int) = (gg op ws xs nums)∧True)∧(True∧True∧True))))))))))) (TT 3 ((True∧(!decide ((nums.length : Int) = 2)) = true)∧TT 10 (((0 : Int) = (db op ws xs nums)∧(1 : Int) = (gg op ws xs nums)∧True)∧(True∧True∧True)))))) (.s 1 ((nums.length : Int) = 2) (.w 1 [(3,.val (dB false))] <| .b 25 (.e) (.s 4 (xj op ws = true) (.w 4 [(2,(Bk op ws xs (nums.getD 0 0) (nums.getD 1 0)).O)] <| .b 43 (.e) (.l (pi op ws xs nums) 0 (fun i => .b 47 (.s 10 ((xs.getD i 0) < 0) (.w 10 [(2,.val (dB true))] <| .e) (.w 10 [(2,.val (dB false)),(8,(EX (ws.getD i 0)).O)] <| .b 61 (.e) (.w 12 [(0,.val (i6 ((i + 1 : Nat) : Int)))] <| .e))) (.w 13 [(3,.callg none false (i6 (mU op ws xs (nums.getD 0 0) (nums.getD 1 0))))] <| .e)))) (.w 4 [(2,(Bl op ws xs (nums.getD 0 0) (nums.getD 1 0)).O)] <| .e))) (.w 1 [(3,.val (dB true))] <| .e)) Try.func71 rfl rfl rfl (by kernel_rfl) ?_
 refine tt ⟨fun hs0 => ?_,fun hs0 => ?_⟩
 · refine tt ⟨(nF hs0),tt (cn (fun hc25 => ?_) (fun hc25 => ?_))⟩
   · refine tt ⟨⟨?_,?_,oK⟩,⟨oK,oK,oK⟩⟩
     all_goals (first | exact (aM (o4 (by omega))).1.symm | exact (aM (o4 (by omega))).2.symm | exact (aM (o5 (by omega))).1.symm | exact (aM (o5 (by omega))).2.symm | exact (aM (bL (bZ hb))).1.symm | exact (aM (bL (bZ hb))).2.symm | exact (aM (bL (b5 (by simpa using hc43)))).1.symm | exact (aM (bL (b5 (by simpa using hc43)))).2.symm | exact (aM (iL (i := i) (by omega) (by omega))).1.symm | exact (aM (iL (i := i) (by omega) (by omega))).2.symm | exact (ed hl2 hxl hok hin).1.symm | exact (ed hl2 hxl hok hin).2.symm)
   · refine tt ⟨ix,tt ⟨ix,tt ⟨fun hs1 => ?_,fun hs1 => ?_⟩⟩⟩
     · have hb := hs1
       refine tt ⟨(uF op ws xs (nums.getD 0 0) (nums.getD 1 0) hwl hb),tt ⟨fun hc43 => ?_,fun hc43 => ?_⟩⟩
       · refine tt ⟨⟨?_,?_,oK⟩,⟨oK,oK,oK⟩⟩
         all_goals (first | exact (aM (o4 (by omega))).1.symm | exact (aM (o4 (by omega))).2.symm | exact (aM (o5 (by omega))).1.symm | exact (aM (o5 (by omega))).2.symm | exact (aM (bL (bZ hb))).1.symm | exact (aM (bL (bZ hb))).2.symm | exact (aM (bL (b5 (by simpa using hc43)))).1.symm | exact (aM (bL (b5 (by simpa using hc43)))).2.symm | exact (aM (iL (i := i) (by omega) (by omega))).1.symm | exact (aM (iL (i := i) (by omega) (by omega))).2.symm | exact (ed hl2 hxl hok hin).1.symm | exact (ed hl2 hxl hok hin).2.symm)
       · refine tt ?_
         have hok := oc hb (by simpa using hc43)
         have hl2 : nums.length = 2 := by omega
         have hxl : xs.length = ws.length := by omega
         refine ⟨rfl,⟨by omega,fun j hj => by omega⟩,?_⟩
         intro i hinv
         obtain ⟨hi,hall⟩ := hinv
         refine tt (cd (fun hc47 => ?_) (fun hc47 => ?_))
         · refine tt ⟨ix,tt ⟨fun hs2 => ?_,fun hs2 => ?_⟩⟩
           · refine tt ⟨(vT hs2),tt ⟨⟨?_,?_,oK⟩,⟨oK,oK,oK⟩⟩⟩
             all_goals (first | exact (aM (o4 (by omega))).1.symm | exact (aM (o4 (by omega))).2.symm | exact (aM (o5 (by omega))).1.symm | exact (aM (o5 (by omega))).2.symm | exact (aM (bL (bZ hb))).1.symm | exact (aM (bL (bZ hb))).2.symm | exact (aM (bL (b5 (by simpa using hc43)))).1.symm | exact (aM (bL (b5 (by simpa using hc43)))).2.symm | exact (aM (iL (i := i) (by omega) (by omega))).1.symm | exact (aM (iL (i := i) (by omega) (by omega))).2.symm | exact (ed hl2 hxl hok hin).1.symm | exact (ed hl2 hxl hok hin).2.symm)
           · refine tt ⟨(vF hs2),tt ⟨ix,tt ⟨(rJ (ws.getD i 0)),tt (cd (fun hc61 => ?_) (fun hc61 => ?_))⟩⟩⟩
             · refine tt ⟨⟨?_,?_,oK⟩,⟨oK,oK,oK⟩⟩
               all_goals (first | exact (aM (o4 (by omega))).1.symm | exact (aM (o4 (by omega))).2.symm | exact (aM (o5 (by omega))).1.symm | exact (aM (o5 (by omega))).2.symm | exact (aM (bL (bZ hb))).1.symm | exact (aM (bL (bZ hb))).2.symm | exact (aM (bL (b5 (by simpa using hc43)))).1.symm | exact (aM (bL (b5 (by simpa using hc43)))).2.symm | exact (aM (iL (i := i) (by omega) (by omega))).1.symm | exact (aM (iL (i := i) (by omega) (by omega))).2.symm | exact (ed hl2 hxl hok hin).1.symm | exact (ed hl2 hxl hok hin).2.symm)
             · refine ⟨w6,tt ⟨(i + 1),rfl,?_,(?_ : xs.length - (i + 1) < xs.length - i)⟩⟩
               · exact ⟨by omega,fM hall ⟨by omega,by omega⟩⟩
               · omega
         · have hin : Bf ws xs = true := CQ (fun j hj => hall j (by omega))
           refine tt ⟨(Ii op ws xs _ _ hok hxl hin),tt ⟨⟨?_,?_,oK⟩,⟨oK,oK,oK⟩⟩⟩
           all_goals (first | exact (aM (o4 (by omega))).1.symm | exact (aM (o4 (by omega))).2.symm | exact (aM (o5 (by omega))).1.symm | exact (aM (o5 (by omega))).2.symm | exact (aM (bL (bZ hb))).1.symm | exact (aM (bL (bZ hb))).2.symm | exact (aM (bL (b5 (by simpa using hc43)))).1.symm | exact (aM (bL (b5 (by simpa using hc43)))).2.symm | exact (aM (iL (i := i) (by omega) (by omega))).1.symm | exact (aM (iL (i := i) (by omega) (by omega))).2.symm | exact (ed hl2 hxl hok hin).1.symm | exact (ed hl2 hxl hok hin).2.symm)
     · have hb := hs1
       refine tt ⟨(uG op ws xs (nums.getD 0 0) (nums.getD 1 0) hwl (Bool.eq_false_iff.2 hb)),tt ⟨⟨?_,?_,oK⟩,⟨oK,oK,oK⟩⟩⟩
       all_goals (first | exact (aM (o4 (by omega))).1.symm | exact (aM (o4 (by omega))).2.symm | exact (aM (o5 (by omega))).1.symm | exact (aM (o5 (by omega))).2.symm | exact (aM (bL (bZ hb))).1.symm | exact (aM (bL (bZ hb))).2.symm | exact (aM (bL (b5 (by simpa using hc43)))).1.symm | exact (aM (bL (b5 (by simpa using hc43)))).2.symm | exact (aM (iL (i := i) (by omega) (by omega))).1.symm | exact (aM (iL (i := i) (by omega) (by omega))).2.symm | exact (ed hl2 hxl hok hin).1.symm | exact (ed hl2 hxl hok hin).2.symm)
 · refine tt ⟨(nT hs0),tt ⟨⟨?_,?_,oK⟩,⟨oK,oK,oK⟩⟩⟩
   all_goals (first | exact (aM (o4 (by omega))).1.symm | exact (aM (o4 (by omega))).2.symm | exact (aM (o5 (by omega))).1.symm | exact (aM (o5 (by omega))).2.symm | exact (aM (bL (bZ hb))).1.symm | exact (aM (bL (bZ hb))).2.symm | exact (aM (bL (b5 (by simpa using hc43)))).1.symm | exact (aM (bL (b5 (by simpa using hc43)))).2.symm | exact (aM (iL (i := i) (by omega) (by omega))).1.symm | exact (aM (iL (i := i) (by omega) (by omega))).2.symm | exact (ed hl2 hxl hok hin).1.symm | exact (ed hl2 hxl hok hin).2.symm)
end Go.Proofs.Ytckgpflobhpnpaa
