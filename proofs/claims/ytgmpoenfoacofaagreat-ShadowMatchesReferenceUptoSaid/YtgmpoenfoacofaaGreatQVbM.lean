/-
  Package bits: the tables of operators; Width, Apply.
-/
import Derived.Test.YtgmpoenfoacofaaGreatQVbB
namespace Go.Proofs.YtgmpoenfoacofaaGreat
open Go.RowKit
set_option linter.unusedVariables false
set_option linter.unusedSimpArgs false
abbrev dA : az := (.var 233 [(i6 0),(.v .nilf),(.v .nilf)])
abbrev aX (op : Int) : D := (i6 (bc op))
abbrev cj : D := (.ptr 1 0 0 0)
abbrev cx : D := (.ptr 2 0 0 0)
set_option maxRecDepth 100000
def ez : List (Int × Value) := [(2,.agg #[.int .i64 1,.func (.func 127) #[] #[],.func (.func 128) #[] #[]]),(3,.agg #[.int .i64 2,.func (.func 130) #[] #[],.func (.func 131) #[] #[]]),(4,.agg #[.int .i64 2,.func (.func 130) #[] #[],.func (.func 132) #[] #[]]),(5,.agg #[.int .i64 2,.func (.func 130) #[] #[],.func (.func 133) #[] #[]]),(6,.agg #[.int .i64 2,.func (.func 130) #[] #[],.func (.func 134) #[] #[]]),(7,.agg #[.int .i64 2,.func (.func 130) #[] #[],.func (.func 135) #[] #[]]),(8,.agg #[.int .i64 2,.func (.func 136) #[] #[],.func (.func 137) #[] #[]]),(9,.agg #[.int .i64 2,.func (.func 136) #[] #[],.func (.func 139) #[] #[]])]
set_option maxHeartbeats 800000 in
theorem wX (w : World) : Calls Tryz.prog 123 #[] w (fun e w' => ∃ arr : Array MapEntry,e = .returned (.map (some w.heap.size))∧w' = w.alloc (.map arr 8)∧arr.toList.map (fun e => (e.key,e.val)) = ez.map (fun e => (Value.int .i64 e.1,e.2))) := by
  go_enter Tryz.func123,Tryz.ntmps123
  go_wp2_with (first | (rw [qW]) | (rw [ts Tryz.underlying237 Tryz.underlying3 (by rfl)]))
  go_ret
  exact ⟨_,rfl,rfl,rfl⟩
abbrev wY : Ct := ⟨123,[],false,.v (.mp ez)⟩
theorem lL : CC wY := af.of_map wX
def eX : List (Int × Value) := [(1,.agg #[.int .i64 0,.func (.func 140) #[] #[],.func (.func 141) #[] #[]]),(10,.agg #[.int .i64 3,.func (.func 142) #[] #[],.func (.func 143) #[] #[]]),(11,.agg #[.int .i64 2,.func (.func 144) #[] #[],.func (.func 145) #[] #[]]),(12,.agg #[.int .i64 1,.func (.func 146) #[] #[],.func (.func 147) #[] #[]]),(13,.agg #[.int .i64 1,.func (.func 148) #[] #[],.func (.func 149) #[] #[]])]
set_option maxHeartbeats 800000 in
theorem wZ (w : World) : Calls Tryz.prog 124 #[] w (fun e w' => ∃ arr : Array MapEntry,e = .returned (.map (some w.heap.size))∧w' = w.alloc (.map arr 5)∧arr.toList.map (fun e => (e.key,e.val)) = eX.map (fun e => (Value.int .i64 e.1,e.2))) := by
  go_enter Tryz.func124,Tryz.ntmps124
  go_wp2_with (first | (rw [qW]) | (rw [ts Tryz.underlying237 Tryz.underlying3 (by rfl)]))
  go_ret
  exact ⟨_,rfl,rfl,rfl⟩
abbrev zY : Ct := ⟨124,[],false,.v (.mp eX)⟩
theorem qs : CC zY := af.of_map wZ
def dn (op : Int) : Nat :=
  if op = 1 then 140 else
  if op = 2 then 127 else
  if op = 3 then 130 else
  if op = 4 then 130 else
  if op = 5 then 130 else
  if op = 6 then 130 else
  if op = 7 then 130 else
  if op = 8 then 136 else
  if op = 9 then 136 else
  if op = 10 then 142 else
  if op = 11 then 144 else
  if op = 12 then 146 else
  if op = 13 then 148 else 0
def dp (op : Int) : Nat :=
  if op = 1 then 141 else
  if op = 2 then 128 else
  if op = 3 then 131 else
  if op = 4 then 132 else
  if op = 5 then 133 else
  if op = 6 then 134 else
  if op = 7 then 135 else
  if op = 8 then 137 else
  if op = 9 then 139 else
  if op = 10 then 143 else
  if op = 11 then 145 else
  if op = 12 then 147 else
  if op = 13 then 149 else 0
abbrev cW (op : Int) (ws xs : List Int) (k w : Int) : Ct := ⟨dn op,[(.agg [(LI ws),(LI xs),(i6 k),(i6 w)])],false,i6 (a8 op ws k w)⟩
abbrev cV (op : Int) (ws xs : List Int) (k w : Int) : Ct := ⟨dp op,[(.agg [(LI ws),(LI xs),(i6 k),(i6 w)])],false,i6 (hC op ws xs k w)⟩
theorem tv {op : Int} {ws : List Int} (h : yx op ws = true) : op = 1 ∨ op = 2 ∨ op = 3 ∨ op = 4 ∨ op = 5 ∨ op = 6 ∨ op = 7 ∨ op = 8 ∨ op = 9 ∨ op = 10 ∨ op = 11 ∨ op = 12 ∨ op = 13 := by
  have h1 := (wV h).1
  by_cases hr : op < 1 ∨ 13 < op
  · have : bc op = -1 := by unfold bc; rw [if_neg (by omega),if_neg (by omega),if_neg (by omega),if_neg (by omega)]
    omega
  · omega
theorem HA (op : Int) (ws xs : List Int) (k w : Int) (h : yx op ws = true) : GC (cW op ws xs k w) := by
  obtain ⟨h1,hf⟩ := wV h
  rcases tv h with rfl | rfl | rfl | rfl | rfl | rfl | rfl | rfl | rfl | rfl | rfl | rfl | rfl
  · (have hl : (ws.length : Int) = 0 := h1); exact ⟨by kernel_rfl,CA ws xs k w (by omega) hf⟩
  · (have hl : (ws.length : Int) = 1 := h1); exact ⟨by kernel_rfl,Eg ws xs k w (by omega) hf⟩
  · (have hl : (ws.length : Int) = 2 := h1); exact ⟨by kernel_rfl,jh ws xs k w (by omega) hf⟩
  · (have hl : (ws.length : Int) = 2 := h1); exact ⟨by kernel_rfl,jh ws xs k w (by omega) hf⟩
  · (have hl : (ws.length : Int) = 2 := h1); exact ⟨by kernel_rfl,jh ws xs k w (by omega) hf⟩
  · (have hl : (ws.length : Int) = 2 := h1); exact ⟨by kernel_rfl,jh ws xs k w (by omega) hf⟩
  · (have hl : (ws.length : Int) = 2 := h1); exact ⟨by kernel_rfl,jh ws xs k w (by omega) hf⟩
  · (have hl : (ws.length : Int) = 2 := h1); exact ⟨by kernel_rfl,Eh ws xs k w (by omega) hf⟩
  · (have hl : (ws.length : Int) = 2 := h1); exact ⟨by kernel_rfl,Eh ws xs k w (by omega) hf⟩
  · (have hl : (ws.length : Int) = 3 := h1); exact ⟨by kernel_rfl,Gq ws xs k w (by omega) hf⟩
  · (have hl : (ws.length : Int) = 2 := h1); exact ⟨by kernel_rfl,Gr ws xs k w (by omega) hf⟩
  · (have hl : (ws.length : Int) = 1 := h1); exact ⟨by kernel_rfl,CE ws xs k w (by omega) hf⟩
  · (have hl : (ws.length : Int) = 1 := h1); exact ⟨by kernel_rfl,Gs ws xs k w (by omega) hf⟩
theorem JE (op : Int) (ws xs : List Int) (k w : Int) (h : fJ op ws k w = true) (hx : xs.length = ws.length) (hin : yv ws xs = true) : GC (cV op ws xs k w) := by
  obtain ⟨h1,hf,h3⟩ := iY h
  have hb : yx op ws = true := by unfold yx; rw [decide_eq_true h1,hf]; rfl
  rcases tv hb with rfl | rfl | rfl | rfl | rfl | rfl | rfl | rfl | rfl | rfl | rfl | rfl | rfl
  · (have hl : (ws.length : Int) = 0 := h1); exact ⟨by kernel_rfl,Ei ws xs k w ⟨by omega,hf,hx,hin⟩⟩
  · (have hl : (ws.length : Int) = 1 := h1); exact ⟨by kernel_rfl,H0 ws xs k w ⟨by omega,hf,hx,hin⟩⟩
  · (have hl : (ws.length : Int) = 2 := h1); exact ⟨by kernel_rfl,H3 ws xs k w ⟨by omega,hf,hx,hin⟩⟩
  · (have hl : (ws.length : Int) = 2 := h1); exact ⟨by kernel_rfl,JB ws xs k w ⟨by omega,hf,hx,hin⟩⟩
  · (have hl : (ws.length : Int) = 2 := h1); exact ⟨by kernel_rfl,H4 ws xs k w ⟨by omega,hf,hx,hin⟩⟩
  · (have hl : (ws.length : Int) = 2 := h1); exact ⟨by kernel_rfl,H5 ws xs k w ⟨by omega,hf,hx,hin⟩⟩
  · (have hl : (ws.length : Int) = 2 := h1); exact ⟨by kernel_rfl,H6 ws xs k w ⟨by omega,hf,hx,hin⟩⟩
  · (have hl : (ws.length : Int) = 2 := h1); exact ⟨by kernel_rfl,JC ws xs k w ⟨by omega,hf,hx,hin⟩⟩
  · (have hl : (ws.length : Int) = 2 := h1); exact ⟨by kernel_rfl,JD ws xs k w ⟨by omega,hf,hx,hin⟩⟩
  · (have hl : (ws.length : Int) = 3 := h1); exact ⟨by kernel_rfl,H8 ws xs k w ⟨by omega,hf,hx,hin⟩ (wT h)⟩
  · (have hl : (ws.length : Int) = 2 := h1); exact ⟨by kernel_rfl,H9 ws xs k w ⟨by omega,hf,hx,hin⟩⟩
  · (have hl : (ws.length : Int) = 1 := h1); exact ⟨by kernel_rfl,Ej ws xs k w ⟨by omega,hf,hx,hin⟩ (wU h)⟩
  · (have hl : (ws.length : Int) = 1 := h1); exact ⟨by kernel_rfl,H7 ws xs k w ⟨by omega,hf,hx,hin⟩⟩
theorem tx {op : Int} (h : op = 2 ∨ op = 3 ∨ op = 4 ∨ op = 5 ∨ op = 6 ∨ op = 7 ∨ op = 8 ∨ op = 9) : ∃ (j : Nat) (e : Int × Value),ez[j]? = some e∧op = e.1∧(∀ e' ∈ ez.take j,op ≠ e'.1)∧uD (D.ofVal e.2) (.agg [(aX op),(.fn (.func (dn op)) [] []),(.fn (.func (dp op)) [] [])]) := by
  rcases h with rfl | rfl | rfl | rfl | rfl | rfl | rfl | rfl
  · exact ⟨0,_,rfl,rfl,by decide,⟨rfl,rfl,rfl,oK⟩⟩
  · exact ⟨1,_,rfl,rfl,by decide,⟨rfl,rfl,rfl,oK⟩⟩
  · exact ⟨2,_,rfl,rfl,by decide,⟨rfl,rfl,rfl,oK⟩⟩
  · exact ⟨3,_,rfl,rfl,by decide,⟨rfl,rfl,rfl,oK⟩⟩
  · exact ⟨4,_,rfl,rfl,by decide,⟨rfl,rfl,rfl,oK⟩⟩
  · exact ⟨5,_,rfl,rfl,by decide,⟨rfl,rfl,rfl,oK⟩⟩
  · exact ⟨6,_,rfl,rfl,by decide,⟨rfl,rfl,rfl,oK⟩⟩
  · exact ⟨7,_,rfl,rfl,by decide,⟨rfl,rfl,rfl,oK⟩⟩
theorem tz {op : Int} (h : ¬(op = 2 ∨ op = 3 ∨ op = 4 ∨ op = 5 ∨ op = 6 ∨ op = 7 ∨ op = 8 ∨ op = 9)) : ∀ e' ∈ ez,op ≠ e'.1 := by
  intro e' he'
  simp only [ez,List.mem_cons,List.not_mem_nil,or_false] at he'
  rcases he' with rfl | rfl | rfl | rfl | rfl | rfl | rfl | rfl <;> simp only [ne_eq] <;> omega
theorem tA {op : Int} (h : op = 1 ∨ op = 10 ∨ op = 11 ∨ op = 12 ∨ op = 13) : ∃ (j : Nat) (e : Int × Value),eX[j]? = some e∧op = e.1∧(∀ e' ∈ eX.take j,op ≠ e'.1)∧uD (D.ofVal e.2) (.agg [(aX op),(.fn (.func (dn op)) [] []),(.fn (.func (dp op)) [] [])]) := by
  rcases h with rfl | rfl | rfl | rfl | rfl
  · exact ⟨0,_,rfl,rfl,by decide,⟨rfl,rfl,rfl,oK⟩⟩
  · exact ⟨1,_,rfl,rfl,by decide,⟨rfl,rfl,rfl,oK⟩⟩
  · exact ⟨2,_,rfl,rfl,by decide,⟨rfl,rfl,rfl,oK⟩⟩
  · exact ⟨3,_,rfl,rfl,by decide,⟨rfl,rfl,rfl,oK⟩⟩
  · exact ⟨4,_,rfl,rfl,by decide,⟨rfl,rfl,rfl,oK⟩⟩
theorem zZ {op : Int} (h : ¬(op = 1 ∨ op = 10 ∨ op = 11 ∨ op = 12 ∨ op = 13)) : ∀ e' ∈ eX,op ≠ e'.1 := by
  intro e' he'
  simp only [eX,List.mem_cons,List.not_mem_nil,or_false] at he'
  rcases he' with rfl | rfl | rfl | rfl | rfl <;> simp only [ne_eq] <;> omega
abbrev CG (op : Int) (ws xs : List Int) (k w : Int) : Ct := ⟨121,[(i6 op),(.agg [(LI ws),(LI xs),(i6 k),(i6 w)])],true,(.tup [(.agg [(aX op),(.fn (.func (dn op)) [] []),(.fn (.func (dp op)) [] [])]),(i6 (a8 op ws k w)),(dB (an (a8 op ws k w)))])⟩
def kJ (op : Int) (ws : List Int) (xs : List Int) (k : Int) (w : Int) : St := ⟨[(4,cj),(7,cx),(9,(i6 (a8 op ws k w)))],[(.var 230 [(LI ws),(LI xs),(i6 k),(i6 w)]),dA,(.var 233 [(aX op),(.fn (.func (dn op)) [] []),(.fn (.func (dp op)) [] [])])]⟩
def qX (op : Int) (ws : List Int) (xs : List Int) (k : Int) (w : Int) : St := ⟨[(4,cj),(7,cx),(9,(i6 (a8 op ws k w))),(44,(.agg [(aX op),(.fn (.func (dn op)) [] []),(.fn (.func (dp op)) [] [])]))],[(.var 230 [(LI ws),(LI xs),(i6 k),(i6 w)]),dA,(.var 233 [(aX op),(.fn (.func (dn op)) [] []),(.fn (.func (dp op)) [] [])])]⟩
def qY (op : Int) (ws : List Int) (xs : List Int) (k : Int) (w : Int) : St := ⟨[(4,cj),(7,cx),(9,(i6 (a8 op ws k w))),(45,(i6 (a8 op ws k w)))],[(.var 230 [(LI ws),(LI xs),(i6 k),(i6 w)]),dA,(.var 233 [(aX op),(.fn (.func (dn op)) [] []),(.fn (.func (dp op)) [] [])])]⟩
def qZ (op : Int) (ws : List Int) (xs : List Int) (k : Int) (w : Int) : St := ⟨[(4,cj),(7,cx),(9,(i6 (a8 op ws k w))),(46,(i6 (a8 op ws k w)))],[(.var 230 [(LI ws),(LI xs),(i6 k),(i6 w)]),dA,(.var 233 [(aX op),(.fn (.func (dn op)) [] []),(.fn (.func (dp op)) [] [])])]⟩
def kK (op : Int) (ws : List Int) (xs : List Int) (k : Int) (w : Int) : St := ⟨[(4,cj),(7,cx),(9,(i6 (a8 op ws k w))),(44,(.agg [(aX op),(.fn (.func (dn op)) [] []),(.fn (.func (dp op)) [] [])])),(45,(i6 (a8 op ws k w)))],[(.var 230 [(LI ws),(LI xs),(i6 k),(i6 w)]),dA,(.var 233 [(aX op),(.fn (.func (dn op)) [] []),(.fn (.func (dp op)) [] [])])]⟩
def kL (op : Int) (ws : List Int) (xs : List Int) (k : Int) (w : Int) : St := ⟨[(4,cj),(7,cx),(9,(i6 (a8 op ws k w))),(44,(.agg [(aX op),(.fn (.func (dn op)) [] []),(.fn (.func (dp op)) [] [])])),(46,(i6 (a8 op ws k w)))],[(.var 230 [(LI ws),(LI xs),(i6 k),(i6 w)]),dA,(.var 233 [(aX op),(.fn (.func (dn op)) [] []),(.fn (.func (dp op)) [] [])])]⟩
def kM (op : Int) (ws : List Int) (xs : List Int) (k : Int) (w : Int) : St := ⟨[(4,cj),(7,cx),(9,(i6 (a8 op ws k w))),(45,(i6 (a8 op ws k w))),(46,(i6 (a8 op ws k w)))],[(.var 230 [(LI ws),(LI xs),(i6 k),(i6 w)]),dA,(.var 233 [(aX op),(.fn (.func (dn op)) [] []),(.fn (.func (dp op)) [] [])])]⟩
def rc (op : Int) (ws : List Int) (xs : List Int) (k : Int) (w : Int) : St := ⟨[(4,cj),(7,cx),(9,(i6 (a8 op ws k w))),(46,(i6 (a8 op ws k w))),(47,(dB (an (a8 op ws k w))))],[(.var 230 [(LI ws),(LI xs),(i6 k),(i6 w)]),dA,(.var 233 [(aX op),(.fn (.func (dn op)) [] []),(.fn (.func (dp op)) [] [])])]⟩
def iB (op : Int) (ws : List Int) (xs : List Int) (k : Int) (w : Int) : St := ⟨[(4,cj),(7,cx),(9,(i6 (a8 op ws k w))),(44,(.agg [(aX op),(.fn (.func (dn op)) [] []),(.fn (.func (dp op)) [] [])])),(45,(i6 (a8 op ws k w))),(46,(i6 (a8 op ws k w)))],[(.var 230 [(LI ws),(LI xs),(i6 k),(i6 w)]),dA,(.var 233 [(aX op),(.fn (.func (dn op)) [] []),(.fn (.func (dp op)) [] [])])]⟩
def kN (op : Int) (ws : List Int) (xs : List Int) (k : Int) (w : Int) : St := ⟨[(4,cj),(7,cx),(9,(i6 (a8 op ws k w))),(44,(.agg [(aX op),(.fn (.func (dn op)) [] []),(.fn (.func (dp op)) [] [])])),(46,(i6 (a8 op ws k w))),(47,(dB (an (a8 op ws k w))))],[(.var 230 [(LI ws),(LI xs),(i6 k),(i6 w)]),dA,(.var 233 [(aX op),(.fn (.func (dn op)) [] []),(.fn (.func (dp op)) [] [])])]⟩
def jJ (op : Int) (ws : List Int) (xs : List Int) (k : Int) (w : Int) : St := ⟨[(4,cj),(7,cx),(9,(i6 (a8 op ws k w))),(45,(i6 (a8 op ws k w))),(46,(i6 (a8 op ws k w))),(47,(dB (an (a8 op ws k w))))],[(.var 230 [(LI ws),(LI xs),(i6 k),(i6 w)]),dA,(.var 233 [(aX op),(.fn (.func (dn op)) [] []),(.fn (.func (dp op)) [] [])])]⟩
def gt (op : Int) (ws : List Int) (xs : List Int) (k : Int) (w : Int) : St := ⟨[(4,cj),(7,cx),(9,(i6 (a8 op ws k w))),(44,(.agg [(aX op),(.fn (.func (dn op)) [] []),(.fn (.func (dp op)) [] [])])),(45,(i6 (a8 op ws k w))),(46,(i6 (a8 op ws k w))),(47,(dB (an (a8 op ws k w))))],[(.var 230 [(LI ws),(LI xs),(i6 k),(i6 w)]),dA,(.var 233 [(aX op),(.fn (.func (dn op)) [] []),(.fn (.func (dp op)) [] [])])]⟩
def oE (op : Int) (ws : List Int) (xs : List Int) (k : Int) (w : Int) : St := ⟨[(4,cj),(7,cx),(9,(i6 (a8 op ws k w))),(44,(.agg [(aX op),(.fn (.func (dn op)) [] []),(.fn (.func (dp op)) [] [])])),(46,(i6 (a8 op ws k w))),(47,(dB (an (a8 op ws k w))))],[(.var 230 [(LI ws),(LI xs),(i6 k),(i6 w)]),(.var 233 [(aX op),(.fn (.func (dn op)) [] []),(.fn (.func (dp op)) [] [])]),(.var 233 [(aX op),(.fn (.func (dn op)) [] []),(.fn (.func (dp op)) [] [])])]⟩
def jK (op : Int) (ws : List Int) (xs : List Int) (k : Int) (w : Int) : St := ⟨[(4,cj),(7,cx),(9,(i6 (a8 op ws k w))),(44,(.agg [(aX op),(.fn (.func (dn op)) [] []),(.fn (.func (dp op)) [] [])])),(45,(i6 (a8 op ws k w))),(46,(i6 (a8 op ws k w))),(47,(dB (an (a8 op ws k w))))],[(.var 230 [(LI ws),(LI xs),(i6 k),(i6 w)]),(.var 233 [(aX op),(.fn (.func (dn op)) [] []),(.fn (.func (dp op)) [] [])]),(.var 233 [(aX op),(.fn (.func (dn op)) [] []),(.fn (.func (dp op)) [] [])])]⟩
def oG (op : Int) (ws : List Int) (xs : List Int) (k : Int) (w : Int) : St := ⟨[(4,cj),(5,(i6 (a8 op ws k w))),(7,cx),(9,(i6 (a8 op ws k w))),(44,(.agg [(aX op),(.fn (.func (dn op)) [] []),(.fn (.func (dp op)) [] [])])),(45,(i6 (a8 op ws k w))),(46,(i6 (a8 op ws k w))),(47,(dB (an (a8 op ws k w))))],[(.var 230 [(LI ws),(LI xs),(i6 k),(i6 w)]),(.var 233 [(aX op),(.fn (.func (dn op)) [] []),(.fn (.func (dp op)) [] [])]),(.var 233 [(aX op),(.fn (.func (dn op)) [] []),(.fn (.func (dp op)) [] [])])]⟩
def oH (op : Int) (ws : List Int) (xs : List Int) (k : Int) (w : Int) : St := ⟨[(4,cj),(5,(i6 (a8 op ws k w))),(6,(dB (an (a8 op ws k w))))],[(.var 230 [(LI ws),(LI xs),(i6 k),(i6 w)]),(.var 233 [(aX op),(.fn (.func (dn op)) [] []),(.fn (.func (dp op)) [] [])]),(.var 233 [(aX op),(.fn (.func (dn op)) [] []),(.fn (.func (dp op)) [] [])])]⟩
def jL (op : Int) (ws : List Int) (xs : List Int) (k : Int) (w : Int) : St := ⟨[(4,cj),(7,cx),(9,(i6 (a8 op ws k w)))],[(.var 230 [(LI ws),(LI xs),(i6 k),(i6 w)]),dA,(.var 233 [(aX op),(.fn (.func (dn op)) [] []),(.fn (.func (dp op)) [] [])])]⟩
def oI (op : Int) (ws : List Int) (xs : List Int) (k : Int) (w : Int) : St := ⟨[(4,cj),(7,cx),(9,(i6 (a8 op ws k w))),(44,(.agg [(aX op),(.fn (.func (dn op)) [] []),(.fn (.func (dp op)) [] [])]))],[(.var 230 [(LI ws),(LI xs),(i6 k),(i6 w)]),dA,(.var 233 [(aX op),(.fn (.func (dn op)) [] []),(.fn (.func (dp op)) [] [])])]⟩
def oJ (op : Int) (ws : List Int) (xs : List Int) (k : Int) (w : Int) : St := ⟨[(4,cj),(7,cx),(9,(i6 (a8 op ws k w))),(45,(i6 (a8 op ws k w)))],[(.var 230 [(LI ws),(LI xs),(i6 k),(i6 w)]),dA,(.var 233 [(aX op),(.fn (.func (dn op)) [] []),(.fn (.func (dp op)) [] [])])]⟩
def oL (op : Int) (ws : List Int) (xs : List Int) (k : Int) (w : Int) : St := ⟨[(4,cj),(7,cx),(9,(i6 (a8 op ws k w))),(46,(i6 (a8 op ws k w)))],[(.var 230 [(LI ws),(LI xs),(i6 k),(i6 w)]),dA,(.var 233 [(aX op),(.fn (.func (dn op)) [] []),(.fn (.func (dp op)) [] [])])]⟩
def jM (op : Int) (ws : List Int) (xs : List Int) (k : Int) (w : Int) : St := ⟨[(4,cj),(7,cx),(9,(i6 (a8 op ws k w))),(44,(.agg [(aX op),(.fn (.func (dn op)) [] []),(.fn (.func (dp op)) [] [])])),(45,(i6 (a8 op ws k w)))],[(.var 230 [(LI ws),(LI xs),(i6 k),(i6 w)]),dA,(.var 233 [(aX op),(.fn (.func (dn op)) [] []),(.fn (.func (dp op)) [] [])])]⟩
def jN (op : Int) (ws : List Int) (xs : List Int) (k : Int) (w : Int) : St := ⟨[(4,cj),(7,cx),(9,(i6 (a8 op ws k w))),(44,(.agg [(aX op),(.fn (.func (dn op)) [] []),(.fn (.func (dp op)) [] [])])),(46,(i6 (a8 op ws k w)))],[(.var 230 [(LI ws),(LI xs),(i6 k),(i6 w)]),dA,(.var 233 [(aX op),(.fn (.func (dn op)) [] []),(.fn (.func (dp op)) [] [])])]⟩
def jO (op : Int) (ws : List Int) (xs : List Int) (k : Int) (w : Int) : St := ⟨[(4,cj),(7,cx),(9,(i6 (a8 op ws k w))),(45,(i6 (a8 op ws k w))),(46,(i6 (a8 op ws k w)))],[(.var 230 [(LI ws),(LI xs),(i6 k),(i6 w)]),dA,(.var 233 [(aX op),(.fn (.func (dn op)) [] []),(.fn (.func (dp op)) [] [])])]⟩
def oM (op : Int) (ws : List Int) (xs : List Int) (k : Int) (w : Int) : St := ⟨[(4,cj),(7,cx),(9,(i6 (a8 op ws k w))),(46,(i6 (a8 op ws k w))),(47,(dB (an (a8 op ws k w))))],[(.var 230 [(LI ws),(LI xs),(i6 k),(i6 w)]),dA,(.var 233 [(aX op),(.fn (.func (dn op)) [] []),(.fn (.func (dp op)) [] [])])]⟩
def gu (op : Int) (ws : List Int) (xs : List Int) (k : Int) (w : Int) : St := ⟨[(4,cj),(7,cx),(9,(i6 (a8 op ws k w))),(44,(.agg [(aX op),(.fn (.func (dn op)) [] []),(.fn (.func (dp op)) [] [])])),(45,(i6 (a8 op ws k w))),(46,(i6 (a8 op ws k w)))],[(.var 230 [(LI ws),(LI xs),(i6 k),(i6 w)]),dA,(.var 233 [(aX op),(.fn (.func (dn op)) [] []),(.fn (.func (dp op)) [] [])])]⟩
def jP (op : Int) (ws : List Int) (xs : List Int) (k : Int) (w : Int) : St := ⟨[(4,cj),(7,cx),(9,(i6 (a8 op ws k w))),(44,(.agg [(aX op),(.fn (.func (dn op)) [] []),(.fn (.func (dp op)) [] [])])),(46,(i6 (a8 op ws k w))),(47,(dB (an (a8 op ws k w))))],[(.var 230 [(LI ws),(LI xs),(i6 k),(i6 w)]),dA,(.var 233 [(aX op),(.fn (.func (dn op)) [] []),(.fn (.func (dp op)) [] [])])]⟩
def iZ (op : Int) (ws : List Int) (xs : List Int) (k : Int) (w : Int) : St := ⟨[(4,cj),(7,cx),(9,(i6 (a8 op ws k w))),(45,(i6 (a8 op ws k w))),(46,(i6 (a8 op ws k w))),(47,(dB (an (a8 op ws k w))))],[(.var 230 [(LI ws),(LI xs),(i6 k),(i6 w)]),dA,(.var 233 [(aX op),(.fn (.func (dn op)) [] []),(.fn (.func (dp op)) [] [])])]⟩
def fy (op : Int) (ws : List Int) (xs : List Int) (k : Int) (w : Int) : St := ⟨[(4,cj),(7,cx),(9,(i6 (a8 op ws k w))),(44,(.agg [(aX op),(.fn (.func (dn op)) [] []),(.fn (.func (dp op)) [] [])])),(45,(i6 (a8 op ws k w))),(46,(i6 (a8 op ws k w))),(47,(dB (an (a8 op ws k w))))],[(.var 230 [(LI ws),(LI xs),(i6 k),(i6 w)]),dA,(.var 233 [(aX op),(.fn (.func (dn op)) [] []),(.fn (.func (dp op)) [] [])])]⟩
def mK (op : Int) (ws : List Int) (xs : List Int) (k : Int) (w : Int) : St := ⟨[(4,cj),(7,cx),(9,(i6 (a8 op ws k w))),(44,(.agg [(aX op),(.fn (.func (dn op)) [] []),(.fn (.func (dp op)) [] [])])),(46,(i6 (a8 op ws k w))),(47,(dB (an (a8 op ws k w))))],[(.var 230 [(LI ws),(LI xs),(i6 k),(i6 w)]),(.var 233 [(aX op),(.fn (.func (dn op)) [] []),(.fn (.func (dp op)) [] [])]),(.var 233 [(aX op),(.fn (.func (dn op)) [] []),(.fn (.func (dp op)) [] [])])]⟩
def i1 (op : Int) (ws : List Int) (xs : List Int) (k : Int) (w : Int) : St := ⟨[(4,cj),(7,cx),(9,(i6 (a8 op ws k w))),(44,(.agg [(aX op),(.fn (.func (dn op)) [] []),(.fn (.func (dp op)) [] [])])),(45,(i6 (a8 op ws k w))),(46,(i6 (a8 op ws k w))),(47,(dB (an (a8 op ws k w))))],[(.var 230 [(LI ws),(LI xs),(i6 k),(i6 w)]),(.var 233 [(aX op),(.fn (.func (dn op)) [] []),(.fn (.func (dp op)) [] [])]),(.var 233 [(aX op),(.fn (.func (dn op)) [] []),(.fn (.func (dp op)) [] [])])]⟩
def mL (op : Int) (ws : List Int) (xs : List Int) (k : Int) (w : Int) : St := ⟨[(4,cj),(5,(i6 (a8 op ws k w))),(7,cx),(9,(i6 (a8 op ws k w))),(44,(.agg [(aX op),(.fn (.func (dn op)) [] []),(.fn (.func (dp op)) [] [])])),(45,(i6 (a8 op ws k w))),(46,(i6 (a8 op ws k w))),(47,(dB (an (a8 op ws k w))))],[(.var 230 [(LI ws),(LI xs),(i6 k),(i6 w)]),(.var 233 [(aX op),(.fn (.func (dn op)) [] []),(.fn (.func (dp op)) [] [])]),(.var 233 [(aX op),(.fn (.func (dn op)) [] []),(.fn (.func (dp op)) [] [])])]⟩
def mM (op : Int) (ws : List Int) (xs : List Int) (k : Int) (w : Int) : St := ⟨[(4,cj),(5,(i6 (a8 op ws k w))),(6,(dB (an (a8 op ws k w))))],[(.var 230 [(LI ws),(LI xs),(i6 k),(i6 w)]),(.var 233 [(aX op),(.fn (.func (dn op)) [] []),(.fn (.func (dp op)) [] [])]),(.var 233 [(aX op),(.fn (.func (dn op)) [] []),(.fn (.func (dp op)) [] [])])]⟩
theorem vH (op : Int) (ws xs : List Int) (k w : Int) (hw : ws.length ≤ 9223372036854775807) (h : yx op ws = true) : CC (CG op ws xs k w) := by
 obtain ⟨h1,h2⟩ := wV h
 have hop := tv h
 refine af.vc (V := TT 4 (CS (op = 2 ∨ op = 3 ∨ op = 4 ∨ op = 5 ∨ op = 6 ∨ op = 7 ∨ op = 8 ∨ op = 9) (CC wY∧TT 1 ((∃ (j : Nat) (e : Int × Value),ez[j]? = some e∧op = e.1∧(∀ e' ∈ ez.take j,op ≠ e'.1)∧uD (D.ofVal e.2) (.agg [(aX op),(.fn (.func (dn op)) [] []),(.fn (.func (dp op)) [] [])]))∧TT 18 ((True∧(!decide ((ws.length : Int) = (bc op))) = false)∧TT 2 (CC (Gp ws)∧TT 1 ((!(ws.all an)) = false∧TT 3 (GC (cW op ws xs k w)∧TT 1 ((kJ op ws xs k w) = (kJ op ws xs k w)∧(((sE (qX op ws xs k w) (True))∧(sE (qY op ws xs k w) (True))∧(sE (qZ op ws xs k w) (True))∧True)∧((sE (kK op ws xs k w) (True))∧(sE (kL op ws xs k w) (True))∧True)∧((sE (kK op ws xs k w) (True))∧(sE (kM op ws xs k w) (True))∧True)∧((sE (kL op ws xs k w) (True))∧(sE (kM op ws xs k w) (True))∧(sE (rc op ws xs k w) (CC (f8 (a8 op ws k w))))∧True)∧((sE (iB op ws xs k w) (True))∧True)∧((sE (iB op ws xs k w) (True))∧(sE (kN op ws xs k w) (CC (f8 (a8 op ws k w))))∧True)∧((sE (iB op ws xs k w) (True))∧(sE (jJ op ws xs k w) (CC (f8 (a8 op ws k w))))∧True)∧((sE (kN op ws xs k w) (True))∧(sE (jJ op ws xs k w) (True))∧True)∧((sE (gt op ws xs k w) (CC (f8 (a8 op ws k w))))∧True)∧((sE (gt op ws xs k w) (True))∧(sE (oE op ws xs k w) (True))∧True)∧((sE (gt op ws xs k w) (True))∧True)∧((sE (jK op ws xs k w) (True))∧True)∧((sE (jK op ws xs k w) (True))∧True)∧((sE (oG op ws xs k w) (True))∧True)∧((sE (oH op ws xs k w) (True))∧True)∧True∧True)∧TT 3 (((bc op) = (bc op)∧((.fn (.func (dn op)) [] []) : D) = (.fn (.func (dn op)) [] [])∧((.fn (.func (dp op)) [] []) : D) = (.fn (.func (dp op)) [] [])∧True)∧(a8 op ws k w) = (a8 op ws k w)∧(an (a8 op ws k w)) = (an (a8 op ws k w))∧True)))))))) (CC wY∧TT 1 ((∀ e' ∈ ez,op ≠ e'.1)∧TT 8 (CC zY∧TT 1 ((∃ (j : Nat) (e : Int × Value),eX[j]? = some e∧op = e.1∧(∀ e' ∈ eX.take j,op ≠ e'.1)∧uD (D.ofVal e.2) (.agg [(aX op),(.fn (.func (dn op)) [] []),(.fn (.func (dp op)) [] [])]))∧TT 15 ((True∧(!decide ((ws.length : Int) = (bc op))) = false)∧TT 2 (CC (Gp ws)∧TT 1 ((!(ws.all an)) = false∧TT 3 (GC (cW op ws xs k w)∧TT 1 ((jL op ws xs k w) = (jL op ws xs k w)∧(((sE (oI op ws xs k w) (True))∧(sE (oJ op ws xs k w) (True))∧(sE (oL op ws xs k w) (True))∧True)∧((sE (jM op ws xs k w) (True))∧(sE (jN op ws xs k w) (True))∧True)∧((sE (jM op ws xs k w) (True))∧(sE (jO op ws xs k w) (True))∧True)∧((sE (jN op ws xs k w) (True))∧(sE (jO op ws xs k w) (True))∧(sE (oM op ws xs k w) (CC (f8 (a8 op ws k w))))∧True)∧((sE (gu op ws xs k w) (True))∧True)∧((sE (gu op ws xs k w) (True))∧(sE (jP op ws xs k w) (CC (f8 (a8 op ws k w))))∧True)∧((sE (gu op ws xs k w) (True))∧(sE (iZ op ws xs k w) (CC (f8 (a8 op ws k w))))∧True)∧((sE (jP op ws xs k w) (True))∧(sE (iZ op ws xs k w) (True))∧True)∧((sE (fy op ws xs k w) (CC (f8 (a8 op ws k w))))∧True)∧((sE (fy op ws xs k w) (True))∧(sE (mK op ws xs k w) (True))∧True)∧((sE (fy op ws xs k w) (True))∧True)∧((sE (i1 op ws xs k w) (True))∧True)∧((sE (i1 op ws xs k w) (True))∧True)∧((sE (mL op ws xs k w) (True))∧True)∧((sE (mM op ws xs k w) (True))∧True)∧True∧True)∧TT 3 (((bc op) = (bc op)∧((.fn (.func (dn op)) [] []) : D) = (.fn (.func (dn op)) [] [])∧((.fn (.func (dp op)) [] []) : D) = (.fn (.func (dp op)) [] [])∧True)∧(a8 op ws k w) = (a8 op ws k w)∧(an (a8 op ws k w)) = (an (a8 op ws k w))∧True)))))))))))) (.s 1 (op = 2 ∨ op = 3 ∨ op = 4 ∨ op = 5 ∨ op = 6 ∨ op = 7 ∨ op = 8 ∨ op = 9) (.w 1 [(0,wY.O),(2,.ent (.agg [(aX op),(.fn (.func (dn op)) [] []),(.fn (.func (dp op)) [] [])]))] <| .w 4 [(10,.val (dB false)),(13,(Gp ws).O)] <| .u 38 (.w 6 [(3,.callg none false (i6 (a8 op ws k w)))] <| .y 7 [(3,(f8 (a8 op ws k w)).O)] [((bm 7 0),(kJ op ws xs k w)),((bm 7 1),(qX op ws xs k w)),((bm 7 2),(qY op ws xs k w)),((bm 7 4),(qZ op ws xs k w)),((bm 7 3),(kK op ws xs k w)),((bm 7 5),(kL op ws xs k w)),((bm 7 6),(kM op ws xs k w)),((bm 7 12),(rc op ws xs k w)),((bm 7 7),(iB op ws xs k w)),((bm 7 13),(kN op ws xs k w)),((bm 7 14),(jJ op ws xs k w)),((bm 7 15),(gt op ws xs k w)),((bm 7 29),(oE op ws xs k w)),((bm 7 31),(jK op ws xs k w)),((bm 7 63),(oG op ws xs k w)),((bm 7 127),(oH op ws xs k w))] <| .e)) (.w 1 [(0,wY.O),(2,.idx none)] <| .w 3 [(0,zY.O),(2,.ent (.agg [(aX op),(.fn (.func (dn op)) [] []),(.fn (.func (dp op)) [] [])]))] <| .w 4 [(10,.val (dB false)),(13,(Gp ws).O)] <| .u 38 (.w 6 [(3,.callg none false (i6 (a8 op ws k w)))] <| .y 7 [(3,(f8 (a8 op ws k w)).O)] [((bm 7 0),(jL op ws xs k w)),((bm 7 1),(oI op ws xs k w)),((bm 7 2),(oJ op ws xs k w)),((bm 7 4),(oL op ws xs k w)),((bm 7 3),(jM op ws xs k w)),((bm 7 5),(jN op ws xs k w)),((bm 7 6),(jO op ws xs k w)),((bm 7 12),(oM op ws xs k w)),((bm 7 7),(gu op ws xs k w)),((bm 7 13),(jP op ws xs k w)),((bm 7 14),(iZ op ws xs k w)),((bm 7 15),(fy op ws xs k w)),((bm 7 29),(mK op ws xs k w)),((bm 7 31),(i1 op ws xs k w)),((bm 7 63),(mL op ws xs k w)),((bm 7 127),(mM op ws xs k w))] <| .e))) Tryz.func121 rfl rfl rfl (by kernel_rfl) ?_
 refine tt ⟨fun hs0 => ?_,fun hs0 => ?_⟩
 · have hS := hs0
   exact ⟨lL,tt ⟨(tx hS),tt ⟨(nF h1),tt ⟨(iz ws hw),tt ⟨(xO h2),tt ⟨(HA op ws xs k w h),tt ⟨rfl,⟨⟨⟨⟨rfl,oK,oK⟩,⟨rfl,oK,oK⟩,⟨rfl,oK,oK⟩,oK⟩,⟨⟨rfl,oK,oK⟩,⟨rfl,oK,oK⟩,oK⟩,⟨⟨rfl,oK,oK⟩,⟨rfl,oK,oK⟩,oK⟩,⟨⟨rfl,oK,oK⟩,⟨rfl,oK,oK⟩,⟨rfl,(dc (a8 op ws k w)),oK⟩,oK⟩,⟨⟨rfl,oK,oK⟩,oK⟩,⟨⟨rfl,oK,oK⟩,⟨rfl,(dc (a8 op ws k w)),oK⟩,oK⟩,⟨⟨rfl,oK,oK⟩,⟨rfl,(dc (a8 op ws k w)),oK⟩,oK⟩,⟨⟨rfl,oK,oK⟩,⟨rfl,oK,oK⟩,oK⟩,⟨⟨rfl,(dc (a8 op ws k w)),oK⟩,oK⟩,⟨⟨rfl,oK,oK⟩,⟨rfl,oK,oK⟩,oK⟩,⟨⟨rfl,oK,oK⟩,oK⟩,⟨⟨rfl,oK,oK⟩,oK⟩,⟨⟨rfl,oK,oK⟩,oK⟩,⟨⟨rfl,oK,oK⟩,oK⟩,⟨⟨rfl,oK,oK⟩,oK⟩,oK,oK⟩,tt ⟨⟨rfl,rfl,rfl,oK⟩,rfl,rfl,oK⟩⟩⟩⟩⟩⟩⟩⟩⟩
 · have hS := hs0
   exact ⟨lL,tt ⟨(tz hS),tt ⟨qs,tt ⟨(tA (by omega)),tt ⟨(nF h1),tt ⟨(iz ws hw),tt ⟨(xO h2),tt ⟨(HA op ws xs k w h),tt ⟨rfl,⟨⟨⟨⟨rfl,oK,oK⟩,⟨rfl,oK,oK⟩,⟨rfl,oK,oK⟩,oK⟩,⟨⟨rfl,oK,oK⟩,⟨rfl,oK,oK⟩,oK⟩,⟨⟨rfl,oK,oK⟩,⟨rfl,oK,oK⟩,oK⟩,⟨⟨rfl,oK,oK⟩,⟨rfl,oK,oK⟩,⟨rfl,(dc (a8 op ws k w)),oK⟩,oK⟩,⟨⟨rfl,oK,oK⟩,oK⟩,⟨⟨rfl,oK,oK⟩,⟨rfl,(dc (a8 op ws k w)),oK⟩,oK⟩,⟨⟨rfl,oK,oK⟩,⟨rfl,(dc (a8 op ws k w)),oK⟩,oK⟩,⟨⟨rfl,oK,oK⟩,⟨rfl,oK,oK⟩,oK⟩,⟨⟨rfl,(dc (a8 op ws k w)),oK⟩,oK⟩,⟨⟨rfl,oK,oK⟩,⟨rfl,oK,oK⟩,oK⟩,⟨⟨rfl,oK,oK⟩,oK⟩,⟨⟨rfl,oK,oK⟩,oK⟩,⟨⟨rfl,oK,oK⟩,oK⟩,⟨⟨rfl,oK,oK⟩,oK⟩,⟨⟨rfl,oK,oK⟩,oK⟩,oK,oK⟩,tt ⟨⟨rfl,rfl,rfl,oK⟩,rfl,rfl,oK⟩⟩⟩⟩⟩⟩⟩⟩⟩⟩⟩
abbrev CH (op : Int) (ws xs : List Int) (k w : Int) : Ct := ⟨121,[(i6 op),(.agg [(LI ws),(LI xs),(i6 k),(i6 w)])],true,(.tup [(.agg [(i6 0),(.v .nilf),(.v .nilf)]),(i6 0),(dB false)])⟩
theorem vI (op : Int) (ws xs : List Int) (k w : Int) (hw : ws.length ≤ 9223372036854775807) (h : yx op ws = false) : CC (CH op ws xs k w) := by
 refine af.vc (V := TT 4 (CS (op = 2 ∨ op = 3 ∨ op = 4 ∨ op = 5 ∨ op = 6 ∨ op = 7 ∨ op = 8 ∨ op = 9) (CC wY∧TT 1 ((∃ (j : Nat) (e : Int × Value),ez[j]? = some e∧op = e.1∧(∀ e' ∈ ez.take j,op ≠ e'.1)∧uD (D.ofVal e.2) (.agg [(aX op),(.fn (.func (dn op)) [] []),(.fn (.func (dp op)) [] [])]))∧TT 8 (CS ((ws.length : Int) = (bc op)) (TT 10 ((True∧(!decide ((ws.length : Int) = (bc op))) = false)∧TT 2 (CC (Gp ws)∧TT 1 ((!(ws.all an)) = true∧TT 7 (((0 : Int) = 0∧True∧True∧True)∧(0 : Int) = 0∧false = false∧True))))) (TT 10 ((True∧(!decide ((ws.length : Int) = (bc op))) = true)∧TT 11 (((0 : Int) = 0∧True∧True∧True)∧(0 : Int) = 0∧false = false∧True)))))) (CC wY∧TT 1 ((∀ e' ∈ ez,op ≠ e'.1)∧TT 8 (CS (op = 1 ∨ op = 10 ∨ op = 11 ∨ op = 12 ∨ op = 13) (CC zY∧TT 1 ((∃ (j : Nat) (e : Int × Value),eX[j]? = some e∧op = e.1∧(∀ e' ∈ eX.take j,op ≠ e'.1)∧uD (D.ofVal e.2) (.agg [(aX op),(.fn (.func (dn op)) [] []),(.fn (.func (dp op)) [] [])]))∧TT 5 (CS ((ws.length : Int) = (bc op)) (TT 10 ((True∧(!decide ((ws.length : Int) = (bc op))) = false)∧TT 2 (CC (Gp ws)∧TT 1 ((!(ws.all an)) = true∧TT 7 (((0 : Int) = 0∧True∧True∧True)∧(0 : Int) = 0∧false = false∧True))))) (TT 10 ((True∧(!decide ((ws.length : Int) = (bc op))) = true)∧TT 11 (((0 : Int) = 0∧True∧True∧True)∧(0 : Int) = 0∧false = false∧True)))))) (CC zY∧TT 1 ((∀ e' ∈ eX,op ≠ e'.1)∧TT 27 (((0 : Int) = 0∧True∧True∧True)∧(0 : Int) = 0∧false = false∧True)))))))) (.s 1 (op = 2 ∨ op = 3 ∨ op = 4 ∨ op = 5 ∨ op = 6 ∨ op = 7 ∨ op = 8 ∨ op = 9) (.w 1 [(0,wY.O),(2,.ent (.agg [(aX op),(.fn (.func (dn op)) [] []),(.fn (.func (dp op)) [] [])]))] <| .s 4 ((ws.length : Int) = (bc op)) (.w 4 [(10,.val (dB false)),(13,(Gp ws).O)] <| .t 38 (.e)) (.w 4 [(10,.val (dB true))] <| .e)) (.w 1 [(0,wY.O),(2,.idx none)] <| .s 3 (op = 1 ∨ op = 10 ∨ op = 11 ∨ op = 12 ∨ op = 13) (.w 3 [(0,zY.O),(2,.ent (.agg [(aX op),(.fn (.func (dn op)) [] []),(.fn (.func (dp op)) [] [])]))] <| .s 4 ((ws.length : Int) = (bc op)) (.w 4 [(10,.val (dB false)),(13,(Gp ws).O)] <| .t 38 (.e)) (.w 4 [(10,.val (dB true))] <| .e)) (.w 3 [(0,zY.O),(2,.idx none)] <| .e))) Tryz.func121 rfl rfl rfl (by kernel_rfl) ?_
 refine tt ⟨fun hs0 => ?_,fun hs0 => ?_⟩
 · have hS := hs0
   refine ⟨lL,tt ⟨(tx hS),tt ⟨fun hs1 => ?_,fun hs1 => ?_⟩⟩⟩
   · exact tt ⟨(nF hs1),tt ⟨(iz ws hw),tt ⟨(KC (by rcases Eb h with h5 | ⟨_,h5⟩; exact absurd (by assumption) h5; rw [h5]; simp)),tt ⟨⟨rfl,oK,oK,oK⟩,rfl,rfl,oK⟩⟩⟩⟩
   · exact tt ⟨(nT hs1),tt ⟨⟨rfl,oK,oK,oK⟩,rfl,rfl,oK⟩⟩
 · have hS := hs0
   refine ⟨lL,tt ⟨(tz hS),tt ⟨fun hs2 => ?_,fun hs2 => ?_⟩⟩⟩
   · have hO := hs2
     refine ⟨qs,tt ⟨(tA hO),tt ⟨fun hs3 => ?_,fun hs3 => ?_⟩⟩⟩
     · exact tt ⟨(nF hs3),tt ⟨(iz ws hw),tt ⟨(KC (by rcases Eb h with h5 | ⟨_,h5⟩; exact absurd (by assumption) h5; rw [h5]; simp)),tt ⟨⟨rfl,oK,oK,oK⟩,rfl,rfl,oK⟩⟩⟩⟩
     · exact tt ⟨(nT hs3),tt ⟨⟨rfl,oK,oK,oK⟩,rfl,rfl,oK⟩⟩
   · have hO := hs2
     exact ⟨qs,tt ⟨(zZ hO),tt ⟨⟨rfl,oK,oK,oK⟩,rfl,rfl,oK⟩⟩⟩
theorem ng {op : Int} {ws : List Int} {k w : Int} (h : yx op ws = true) (h2 : an (a8 op ws k w) = true) : fJ op ws k w = true := by rw [zW,h,h2]; rfl
theorem b9 {op : Int} {ws : List Int} {k w : Int} (h : ¬yx op ws = true) : fJ op ws k w = false := by rw [zW,Bool.eq_false_iff.2 h]; rfl
theorem ca {op : Int} {ws : List Int} {k w : Int} (h2 : ¬an (a8 op ws k w) = true) : fJ op ws k w = false := by rw [zW,Bool.eq_false_iff.2 h2,Bool.and_false]
theorem kq {op : Int} {ws : List Int} {k w : Int} (h : fJ op ws k w = false) : 0 = bJ op ws k w∧1 = iX op ws k w := by unfold bJ iX; rw [h]; exact ⟨rfl,rfl⟩
theorem qt {op : Int} {ws : List Int} {k w : Int} (h : fJ op ws k w = true) : a8 op ws k w = bJ op ws k w∧0 = iX op ws k w := by unfold bJ iX; rw [h]; exact ⟨rfl,rfl⟩
abbrev Ia (op : Int) (ws : List Int) (k w : Int) : Ct := ⟨119,[(i6 op),(LI ws),(.agg [(i6 k),(i6 w)])],false,(.tup [(i6 (bJ op ws k w)),(i6 (iX op ws k w))])⟩
theorem Ek (op : Int) (ws : List Int) (k w : Int) (hw : ws.length ≤ 9223372036854775807) : CC (Ia op ws k w) := by
 refine af.vc (V := TT 3 (CS (yx op ws = true) (TT 2 (((0 ≤ (0 : Int)∧0 < (2 : Int))∧True)∧TT 1 (((0 ≤ (1 : Int)∧1 < (2 : Int))∧True)∧TT 2 ((wz [] [(i6 op),(.agg [(LI ws),.nils,(i6 k),(i6 w)])] (CG op ws [] k w).as∧CC (CG op ws [] k w))∧TT 10 (CB (!(an (a8 op ws k w))) (TT 4 (((0 : Int) = (bJ op ws k w)∧(1 : Int) = (iX op ws k w)∧True)∧(True∧True∧True))) (TT 5 (((a8 op ws k w) = (bJ op ws k w)∧(0 : Int) = (iX op ws k w)∧True)∧(True∧True∧True)))))))) (TT 2 (((0 ≤ (0 : Int)∧0 < (2 : Int))∧True)∧TT 1 (((0 ≤ (1 : Int)∧1 < (2 : Int))∧True)∧TT 2 ((wz [] [(i6 op),(.agg [(LI ws),.nils,(i6 k),(i6 w)])] (CH op ws [] k w).as∧CC (CH op ws [] k w))∧TT 14 (((0 : Int) = (bJ op ws k w)∧(1 : Int) = (iX op ws k w)∧True)∧(True∧True∧True)))))))) (.s 1 (yx op ws = true) (.w 1 [(7,(CG op ws [] k w).O')] <| .b 24 (.e) (.e)) (.w 1 [(7,(CH op ws [] k w).O')] <| .e)) Tryz.func119 rfl rfl rfl (by kernel_rfl) ?_
 refine tt ⟨fun hs0 => ?_,fun hs0 => ?_⟩
 · have hb := hs0
   refine tt ⟨⟨by omega,oK⟩,tt ⟨⟨by omega,oK⟩,tt ⟨⟨⟨rfl,⟨rfl,rfl,rfl,rfl,oK⟩,oK⟩,(vH op ws [] k w hw hb)⟩,tt ⟨fun hc24 => ?_,fun hc24 => ?_⟩⟩⟩⟩
   · refine tt ⟨⟨?_,?_,oK⟩,⟨oK,oK,oK⟩⟩
     all_goals (first | exact (kq (b9 hb)).1 | exact (kq (b9 hb)).2 | exact (kq (ca (by simpa using hc24))).1 | exact (kq (ca (by simpa using hc24))).2 | exact (qt (ng hb (by simpa using hc24))).1 | exact (qt (ng hb (by simpa using hc24))).2)
   · refine tt ⟨⟨?_,?_,oK⟩,⟨oK,oK,oK⟩⟩
     all_goals (first | exact (kq (b9 hb)).1 | exact (kq (b9 hb)).2 | exact (kq (ca (by simpa using hc24))).1 | exact (kq (ca (by simpa using hc24))).2 | exact (qt (ng hb (by simpa using hc24))).1 | exact (qt (ng hb (by simpa using hc24))).2)
 · have hb := hs0
   refine tt ⟨⟨by omega,oK⟩,tt ⟨⟨by omega,oK⟩,tt ⟨⟨⟨rfl,⟨rfl,rfl,rfl,rfl,oK⟩,oK⟩,(vI op ws [] k w hw (Bool.eq_false_iff.2 hb))⟩,tt ⟨⟨?_,?_,oK⟩,⟨oK,oK,oK⟩⟩⟩⟩⟩
   all_goals (first | exact (kq (b9 hb)).1 | exact (kq (b9 hb)).2 | exact (kq (ca (by simpa using hc24))).1 | exact (kq (ca (by simpa using hc24))).2 | exact (qt (ng hb (by simpa using hc24))).1 | exact (qt (ng hb (by simpa using hc24))).2)
abbrev Ib (op : Int) (ws xs nums : List Int) : Ct := ⟨118,[(i6 op),(LI ws),(LI xs),(LI nums)],false,(.tup [(i6 (cg op ws xs nums)),(i6 (f7 op ws xs nums))])⟩
abbrev oO (op : Int) (ws : List Int) (xs : List Int) (nums : List Int) : Lp (Nat) := f6 [1,10,11,44,45,46] 11 (fun (i : Nat) => ⟨[(1,(LI ws)),(10,(.ptr 9 0 0 0)),(11,(.ptr 10 0 0 0)),(44,(LI xs)),(45,(i6 (xs.length : Int))),(46,(i6 (i : Int)))],[.dead,.dead,.dead,.dead,.dead,.dead,.dead,.dead,.dead,(.var 230 [(LI ws),(LI xs),(i6 (nums.getD 0 0)),(i6 (nums.getD 1 0))]),(.var 233 [(aX op),(.fn (.func (dn op)) [] []),(.fn (.func (dp op)) [] [])])]⟩) (fun (i : Nat) => i ≤ xs.length∧∀ j,j < i → 0 ≤ xs.getD j 0∧xs.getD j 0 ≤ ah (ws.getD j 0)) (fun (i : Nat) => xs.length - i)
theorem El (op : Int) (ws xs nums : List Int) (hwl : ws.length ≤ 9223372036854775807) (hxl0 : xs.length ≤ 9223372036854775807) : CC (Ib op ws xs nums) := by
 refine af.vc (V := TT 2 (CS ((nums.length : Int) = 2) (TT 3 ((True∧(!decide ((nums.length : Int) = 2)) = false)∧TT 6 (CN ((xs.length : Int) = (ws.length : Int)) (TT 4 (((0 : Int) = (cg op ws xs nums)∧(1 : Int) = (f7 op ws xs nums)∧True)∧(True∧True∧True))) (TT 3 (IX 0 nums.length∧TT 2 (IX 1 nums.length∧TT 4 (CS (yx op ws = true) (TT 2 (CC (CG op ws xs (nums.getD 0 0) (nums.getD 1 0))∧TT 10 (CB (!(an (a8 op ws (nums.getD 0 0) (nums.getD 1 0)))) (TT 4 (((0 : Int) = (cg op ws xs nums)∧(1 : Int) = (f7 op ws xs nums)∧True)∧(True∧True∧True))) (TT 3 (GO (oO op ws xs nums) 0 (∀ i,(oO op ws xs nums).inv i → TT 1 (CD ((i : Int) < (xs.length : Int)) (TT 1 (IX (i : Int) xs.length∧TT 3 (CS ((xs.getD i 0) < 0) (TT 2 ((True∧(decide ((xs.getD i 0) < 0)) = true)∧TT 12 (((0 : Int) = (cg op ws xs nums)∧(1 : Int) = (f7 op ws xs nums)∧True)∧(True∧True∧True)))) (TT 2 ((True∧(decide ((xs.getD i 0) < 0)) = false)∧TT 3 (IX (i : Int) ws.length∧TT 1 (CC (wW (ws.getD i 0))∧TT 2 (CD ((xs.getD i 0) > (ah (ws.getD i 0))) (TT 4 (((0 : Int) = (cg op ws xs nums)∧(1 : Int) = (f7 op ws xs nums)∧True)∧(True∧True∧True))) (W6 ((i + 1 : Nat) : Int)∧TT 1 (AG (oO op ws xs nums) i (i + 1))))))))))) (TT 3 (GC (cV op ws xs (nums.getD 0 0) (nums.getD 1 0))∧TT 4 (((hC op ws xs (nums.getD 0 0) (nums.getD 1 0)) = (cg op ws xs nums)∧(0 : Int) = (f7 op ws xs nums)∧True)∧(True∧True∧True))))))))))) (TT 2 (CC (CH op ws xs (nums.getD 0 0) (nums.getD 1 0))∧TT 14 (((0 : Int) = (cg op ws xs nums)∧(1 : Int) = (f7 op ws xs nums)∧True)∧(True∧True∧True))))))))))) (TT 3 ((True∧(!decide ((nums.length : Int) = 2)) = true)∧TT 10 (((0 : Int) = (cg op ws xs nums)∧(1 : Int) = (f7 op ws xs nums)∧True)∧(True∧True∧True)))))) (.s 1 ((nums.length : Int) = 2) (.w 1 [(3,.val (dB false))] <| .b 25 (.e) (.s 4 (yx op ws = true) (.w 4 [(2,(CG op ws xs (nums.getD 0 0) (nums.getD 1 0)).O)] <| .b 43 (.e) (.l (oO op ws xs nums) 0 (fun i => .b 47 (.s 10 ((xs.getD i 0) < 0) (.w 10 [(2,.val (dB true))] <| .e) (.w 10 [(2,.val (dB false)),(8,(wW (ws.getD i 0)).O)] <| .b 61 (.e) (.w 12 [(0,.val (i6 ((i + 1 : Nat) : Int)))] <| .e))) (.w 13 [(3,.callg none false (i6 (hC op ws xs (nums.getD 0 0) (nums.getD 1 0))))] <| .e)))) (.w 4 [(2,(CH op ws xs (nums.getD 0 0) (nums.getD 1 0)).O)] <| .e))) (.w 1 [(3,.val (dB true))] <| .e)) Tryz.func118 rfl rfl rfl (by kernel_rfl) ?_
 refine tt ⟨fun hs0 => ?_,fun hs0 => ?_⟩
 · refine tt ⟨(nF hs0),tt (cn (fun hc25 => ?_) (fun hc25 => ?_))⟩
   · refine tt ⟨⟨?_,?_,oK⟩,⟨oK,oK,oK⟩⟩
     all_goals (first | exact (aW (oB (by omega))).1.symm | exact (aW (oB (by omega))).2.symm | exact (aW (oC (by omega))).1.symm | exact (aW (oC (by omega))).2.symm | exact (aW (bU (b9 hb))).1.symm | exact (aW (bU (b9 hb))).2.symm | exact (aW (bU (ca (by simpa using hc43)))).1.symm | exact (aW (bU (ca (by simpa using hc43)))).2.symm | exact (aW (iy (i := i) (by omega) (by omega))).1.symm | exact (aW (iy (i := i) (by omega) (by omega))).2.symm | exact (cQ hl2 hxl hok hin).1.symm | exact (cQ hl2 hxl hok hin).2.symm)
   · refine tt ⟨ix,tt ⟨ix,tt ⟨fun hs1 => ?_,fun hs1 => ?_⟩⟩⟩
     · have hb := hs1
       refine tt ⟨(vH op ws xs (nums.getD 0 0) (nums.getD 1 0) hwl hb),tt ⟨fun hc43 => ?_,fun hc43 => ?_⟩⟩
       · refine tt ⟨⟨?_,?_,oK⟩,⟨oK,oK,oK⟩⟩
         all_goals (first | exact (aW (oB (by omega))).1.symm | exact (aW (oB (by omega))).2.symm | exact (aW (oC (by omega))).1.symm | exact (aW (oC (by omega))).2.symm | exact (aW (bU (b9 hb))).1.symm | exact (aW (bU (b9 hb))).2.symm | exact (aW (bU (ca (by simpa using hc43)))).1.symm | exact (aW (bU (ca (by simpa using hc43)))).2.symm | exact (aW (iy (i := i) (by omega) (by omega))).1.symm | exact (aW (iy (i := i) (by omega) (by omega))).2.symm | exact (cQ hl2 hxl hok hin).1.symm | exact (cQ hl2 hxl hok hin).2.symm)
       · refine tt ?_
         have hok := ng hb (by simpa using hc43)
         have hl2 : nums.length = 2 := by omega
         have hxl : xs.length = ws.length := by omega
         refine ⟨rfl,⟨by omega,fun j hj => by omega⟩,?_⟩
         intro i hinv
         obtain ⟨hi,hall⟩ := hinv
         refine tt (cd (fun hc47 => ?_) (fun hc47 => ?_))
         · refine tt ⟨ix,tt ⟨fun hs2 => ?_,fun hs2 => ?_⟩⟩
           · refine tt ⟨(vT hs2),tt ⟨⟨?_,?_,oK⟩,⟨oK,oK,oK⟩⟩⟩
             all_goals (first | exact (aW (oB (by omega))).1.symm | exact (aW (oB (by omega))).2.symm | exact (aW (oC (by omega))).1.symm | exact (aW (oC (by omega))).2.symm | exact (aW (bU (b9 hb))).1.symm | exact (aW (bU (b9 hb))).2.symm | exact (aW (bU (ca (by simpa using hc43)))).1.symm | exact (aW (bU (ca (by simpa using hc43)))).2.symm | exact (aW (iy (i := i) (by omega) (by omega))).1.symm | exact (aW (iy (i := i) (by omega) (by omega))).2.symm | exact (cQ hl2 hxl hok hin).1.symm | exact (cQ hl2 hxl hok hin).2.symm)
           · refine tt ⟨(vF hs2),tt ⟨ix,tt ⟨(rX (ws.getD i 0)),tt (cd (fun hc61 => ?_) (fun hc61 => ?_))⟩⟩⟩
             · refine tt ⟨⟨?_,?_,oK⟩,⟨oK,oK,oK⟩⟩
               all_goals (first | exact (aW (oB (by omega))).1.symm | exact (aW (oB (by omega))).2.symm | exact (aW (oC (by omega))).1.symm | exact (aW (oC (by omega))).2.symm | exact (aW (bU (b9 hb))).1.symm | exact (aW (bU (b9 hb))).2.symm | exact (aW (bU (ca (by simpa using hc43)))).1.symm | exact (aW (bU (ca (by simpa using hc43)))).2.symm | exact (aW (iy (i := i) (by omega) (by omega))).1.symm | exact (aW (iy (i := i) (by omega) (by omega))).2.symm | exact (cQ hl2 hxl hok hin).1.symm | exact (cQ hl2 hxl hok hin).2.symm)
             · refine ⟨w6,tt ⟨(i + 1),rfl,?_,(?_ : xs.length - (i + 1) < xs.length - i)⟩⟩
               · exact ⟨by omega,bH hall ⟨by omega,by omega⟩⟩
               · omega
         · have hin : yv ws xs = true := Ea (fun j hj => hall j (by omega))
           refine tt ⟨(JE op ws xs _ _ hok hxl hin),tt ⟨⟨?_,?_,oK⟩,⟨oK,oK,oK⟩⟩⟩
           all_goals (first | exact (aW (oB (by omega))).1.symm | exact (aW (oB (by omega))).2.symm | exact (aW (oC (by omega))).1.symm | exact (aW (oC (by omega))).2.symm | exact (aW (bU (b9 hb))).1.symm | exact (aW (bU (b9 hb))).2.symm | exact (aW (bU (ca (by simpa using hc43)))).1.symm | exact (aW (bU (ca (by simpa using hc43)))).2.symm | exact (aW (iy (i := i) (by omega) (by omega))).1.symm | exact (aW (iy (i := i) (by omega) (by omega))).2.symm | exact (cQ hl2 hxl hok hin).1.symm | exact (cQ hl2 hxl hok hin).2.symm)
     · have hb := hs1
       refine tt ⟨(vI op ws xs (nums.getD 0 0) (nums.getD 1 0) hwl (Bool.eq_false_iff.2 hb)),tt ⟨⟨?_,?_,oK⟩,⟨oK,oK,oK⟩⟩⟩
       all_goals (first | exact (aW (oB (by omega))).1.symm | exact (aW (oB (by omega))).2.symm | exact (aW (oC (by omega))).1.symm | exact (aW (oC (by omega))).2.symm | exact (aW (bU (b9 hb))).1.symm | exact (aW (bU (b9 hb))).2.symm | exact (aW (bU (ca (by simpa using hc43)))).1.symm | exact (aW (bU (ca (by simpa using hc43)))).2.symm | exact (aW (iy (i := i) (by omega) (by omega))).1.symm | exact (aW (iy (i := i) (by omega) (by omega))).2.symm | exact (cQ hl2 hxl hok hin).1.symm | exact (cQ hl2 hxl hok hin).2.symm)
 · refine tt ⟨(nT hs0),tt ⟨⟨?_,?_,oK⟩,⟨oK,oK,oK⟩⟩⟩
   all_goals (first | exact (aW (oB (by omega))).1.symm | exact (aW (oB (by omega))).2.symm | exact (aW (oC (by omega))).1.symm | exact (aW (oC (by omega))).2.symm | exact (aW (bU (b9 hb))).1.symm | exact (aW (bU (b9 hb))).2.symm | exact (aW (bU (ca (by simpa using hc43)))).1.symm | exact (aW (bU (ca (by simpa using hc43)))).2.symm | exact (aW (iy (i := i) (by omega) (by omega))).1.symm | exact (aW (iy (i := i) (by omega) (by omega))).2.symm | exact (cQ hl2 hxl hok hin).1.symm | exact (cQ hl2 hxl hok hin).2.symm)
end Go.Proofs.YtgmpoenfoacofaaGreat
