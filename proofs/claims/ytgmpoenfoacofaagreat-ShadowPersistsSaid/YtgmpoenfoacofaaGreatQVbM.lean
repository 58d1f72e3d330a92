/-
  Package bits: the tables of operators; Width, Apply.
-/
import Derived.Test.YtgmpoenfoacofaaGreatQVbB
namespace Go.Proofs.YtgmpoenfoacofaaGreat
open Go.RowKit
set_option linter.unusedVariables false
set_option linter.unusedSimpArgs false
abbrev d6 : aC := (.var 233 [(i6 0),(.v .nilf),(.v .nilf)])
abbrev a6 (op : Int) : D := (i6 (bj op))
abbrev cD : D := (.ptr 1 0 0 0)
abbrev cK : D := (.ptr 2 0 0 0)
set_option maxRecDepth 100000
def eY : List (Int × Value) := [(2,.agg #[.int .i64 1,.func (.func 127) #[] #[],.func (.func 128) #[] #[]]),(3,.agg #[.int .i64 2,.func (.func 130) #[] #[],.func (.func 131) #[] #[]]),(4,.agg #[.int .i64 2,.func (.func 130) #[] #[],.func (.func 132) #[] #[]]),(5,.agg #[.int .i64 2,.func (.func 130) #[] #[],.func (.func 133) #[] #[]]),(6,.agg #[.int .i64 2,.func (.func 130) #[] #[],.func (.func 134) #[] #[]]),(7,.agg #[.int .i64 2,.func (.func 130) #[] #[],.func (.func 135) #[] #[]]),(8,.agg #[.int .i64 2,.func (.func 136) #[] #[],.func (.func 137) #[] #[]]),(9,.agg #[.int .i64 2,.func (.func 136) #[] #[],.func (.func 139) #[] #[]])]
set_option maxHeartbeats 800000 in
theorem yl (w : World) : Calls Tryz.prog 123 #[] w (fun e w' => ∃ arr : Array MapEntry,e = .returned (.map (some w.heap.size))∧w' = w.alloc (.map arr 8)∧arr.toList.map (fun e => (e.key,e.val)) = eY.map (fun e => (Value.int .i64 e.1,e.2))) := by
  go_enter Tryz.func123,Tryz.ntmps123
  go_wp2_with (first | (rw [sv]) | (rw [uR Tryz.underlying237 Tryz.underlying3 (by rfl)]))
  go_ret
  exact ⟨_,rfl,rfl,rfl⟩
abbrev ym : Ct := ⟨123,[],false,.v (.mp eY)⟩
theorem mR : CC ym := af.of_map yl
def fw : List (Int × Value) := [(1,.agg #[.int .i64 0,.func (.func 140) #[] #[],.func (.func 141) #[] #[]]),(10,.agg #[.int .i64 3,.func (.func 142) #[] #[],.func (.func 143) #[] #[]]),(11,.agg #[.int .i64 2,.func (.func 144) #[] #[],.func (.func 145) #[] #[]]),(12,.agg #[.int .i64 1,.func (.func 146) #[] #[],.func (.func 147) #[] #[]]),(13,.agg #[.int .i64 1,.func (.func 148) #[] #[],.func (.func 149) #[] #[]])]
set_option maxHeartbeats 800000 in
theorem yn (w : World) : Calls Tryz.prog 124 #[] w (fun e w' => ∃ arr : Array MapEntry,e = .returned (.map (some w.heap.size))∧w' = w.alloc (.map arr 5)∧arr.toList.map (fun e => (e.key,e.val)) = fw.map (fun e => (Value.int .i64 e.1,e.2))) := by
  go_enter Tryz.func124,Tryz.ntmps124
  go_wp2_with (first | (rw [sv]) | (rw [uR Tryz.underlying237 Tryz.underlying3 (by rfl)]))
  go_ret
  exact ⟨_,rfl,rfl,rfl⟩
abbrev Bu : Ct := ⟨124,[],false,.v (.mp fw)⟩
theorem rJ : CC Bu := af.of_map yn
def dU (op : Int) : Nat :=
  if op = 1 then 140 else
  if op = 2 then 127 else
  if op = 3 then 130 else
  if op = 4 then 130 else
  if op = 5 then 130 else
  if op = 6 then 130 else
  if op = 7 then 130 else
  if op = 8 then 136 else
  if op = 9 then 136 else
  if op = 10 then 142 else
  if op = 11 then 144 else
  if op = 12 then 146 else
  if op = 13 then 148 else 0
def dV (op : Int) : Nat :=
  if op = 1 then 141 else
  if op = 2 then 128 else
  if op = 3 then 131 else
  if op = 4 then 132 else
  if op = 5 then 133 else
  if op = 6 then 134 else
  if op = 7 then 135 else
  if op = 8 then 137 else
  if op = 9 then 139 else
  if op = 10 then 143 else
  if op = 11 then 145 else
  if op = 12 then 147 else
  if op = 13 then 149 else 0
abbrev cW (op : Int) (ws xs : List Int) (k w : Int) : Ct := ⟨dU op,[(.agg [(LI ws),(LI xs),(i6 k),(i6 w)])],false,i6 (bf op ws k w)⟩
abbrev cV (op : Int) (ws xs : List Int) (k w : Int) : Ct := ⟨dV op,[(.agg [(LI ws),(LI xs),(i6 k),(i6 w)])],false,i6 (iJ op ws xs k w)⟩
theorem uT {op : Int} {ws : List Int} (h : zX op ws = true) : op = 1 ∨ op = 2 ∨ op = 3 ∨ op = 4 ∨ op = 5 ∨ op = 6 ∨ op = 7 ∨ op = 8 ∨ op = 9 ∨ op = 10 ∨ op = 11 ∨ op = 12 ∨ op = 13 := by
  have h1 := (yj h).1
  by_cases hr : op < 1 ∨ 13 < op
  · have : bj op = -1 := by unfold bj; rw [if_neg (by omega),if_neg (by omega),if_neg (by omega),if_neg (by omega)]
    omega
  · omega
theorem JA (op : Int) (ws xs : List Int) (k w : Int) (h : zX op ws = true) : GC (cW op ws xs k w) := by
  obtain ⟨h1,hf⟩ := yj h
  rcases uT h with rfl | rfl | rfl | rfl | rfl | rfl | rfl | rfl | rfl | rfl | rfl | rfl | rfl
  · (have hl : (ws.length : Int) = 0 := h1); exact ⟨by kernel_rfl,Es ws xs k w (by omega) hf⟩
  · (have hl : (ws.length : Int) = 1 := h1); exact ⟨by kernel_rfl,Gh ws xs k w (by omega) hf⟩
  · (have hl : (ws.length : Int) = 2 := h1); exact ⟨by kernel_rfl,jV ws xs k w (by omega) hf⟩
  · (have hl : (ws.length : Int) = 2 := h1); exact ⟨by kernel_rfl,jV ws xs k w (by omega) hf⟩
  · (have hl : (ws.length : Int) = 2 := h1); exact ⟨by kernel_rfl,jV ws xs k w (by omega) hf⟩
  · (have hl : (ws.length : Int) = 2 := h1); exact ⟨by kernel_rfl,jV ws xs k w (by omega) hf⟩
  · (have hl : (ws.length : Int) = 2 := h1); exact ⟨by kernel_rfl,jV ws xs k w (by omega) hf⟩
  · (have hl : (ws.length : Int) = 2 := h1); exact ⟨by kernel_rfl,Gi ws xs k w (by omega) hf⟩
  · (have hl : (ws.length : Int) = 2 := h1); exact ⟨by kernel_rfl,Gi ws xs k w (by omega) hf⟩
  · (have hl : (ws.length : Int) = 3 := h1); exact ⟨by kernel_rfl,Ij ws xs k w (by omega) hf⟩
  · (have hl : (ws.length : Int) = 2 := h1); exact ⟨by kernel_rfl,Ik ws xs k w (by omega) hf⟩
  · (have hl : (ws.length : Int) = 1 := h1); exact ⟨by kernel_rfl,Et ws xs k w (by omega) hf⟩
  · (have hl : (ws.length : Int) = 1 := h1); exact ⟨by kernel_rfl,Il ws xs k w (by omega) hf⟩
theorem LF (op : Int) (ws xs : List Int) (k w : Int) (h : gj op ws k w = true) (hx : xs.length = ws.length) (hin : zV ws xs = true) : GC (cV op ws xs k w) := by
  obtain ⟨h1,hf,h3⟩ := jD h
  have hb : zX op ws = true := by unfold zX; rw [decide_eq_true h1,hf]; rfl
  rcases uT hb with rfl | rfl | rfl | rfl | rfl | rfl | rfl | rfl | rfl | rfl | rfl | rfl | rfl
  · (have hl : (ws.length : Int) = 0 := h1); exact ⟨by kernel_rfl,Gj ws xs k w ⟨by omega,hf,hx,hin⟩⟩
  · (have hl : (ws.length : Int) = 1 := h1); exact ⟨by kernel_rfl,J2 ws xs k w ⟨by omega,hf,hx,hin⟩⟩
  · (have hl : (ws.length : Int) = 2 := h1); exact ⟨by kernel_rfl,J3 ws xs k w ⟨by omega,hf,hx,hin⟩⟩
  · (have hl : (ws.length : Int) = 2 := h1); exact ⟨by kernel_rfl,LA ws xs k w ⟨by omega,hf,hx,hin⟩⟩
  · (have hl : (ws.length : Int) = 2 := h1); exact ⟨by kernel_rfl,J4 ws xs k w ⟨by omega,hf,hx,hin⟩⟩
  · (have hl : (ws.length : Int) = 2 := h1); exact ⟨by kernel_rfl,J5 ws xs k w ⟨by omega,hf,hx,hin⟩⟩
  · (have hl : (ws.length : Int) = 2 := h1); exact ⟨by kernel_rfl,J6 ws xs k w ⟨by omega,hf,hx,hin⟩⟩
  · (have hl : (ws.length : Int) = 2 := h1); exact ⟨by kernel_rfl,LC ws xs k w ⟨by omega,hf,hx,hin⟩⟩
  · (have hl : (ws.length : Int) = 2 := h1); exact ⟨by kernel_rfl,LD ws xs k w ⟨by omega,hf,hx,hin⟩⟩
  · (have hl : (ws.length : Int) = 3 := h1); exact ⟨by kernel_rfl,J8 ws xs k w ⟨by omega,hf,hx,hin⟩ (yh h)⟩
  · (have hl : (ws.length : Int) = 2 := h1); exact ⟨by kernel_rfl,J9 ws xs k w ⟨by omega,hf,hx,hin⟩⟩
  · (have hl : (ws.length : Int) = 1 := h1); exact ⟨by kernel_rfl,Gk ws xs k w ⟨by omega,hf,hx,hin⟩ (yi h)⟩
  · (have hl : (ws.length : Int) = 1 := h1); exact ⟨by kernel_rfl,J7 ws xs k w ⟨by omega,hf,hx,hin⟩⟩
theorem uU {op : Int} (h : op = 2 ∨ op = 3 ∨ op = 4 ∨ op = 5 ∨ op = 6 ∨ op = 7 ∨ op = 8 ∨ op = 9) : ∃ (j : Nat) (e : Int × Value),eY[j]? = some e∧op = e.1∧(∀ e' ∈ eY.take j,op ≠ e'.1)∧v3 (D.ofVal e.2) (.agg [(a6 op),(.fn (.func (dU op)) [] []),(.fn (.func (dV op)) [] [])]) := by
  rcases h with rfl | rfl | rfl | rfl | rfl | rfl | rfl | rfl
  · exact ⟨0,_,rfl,rfl,by decide,⟨rfl,rfl,rfl,oK⟩⟩
  · exact ⟨1,_,rfl,rfl,by decide,⟨rfl,rfl,rfl,oK⟩⟩
  · exact ⟨2,_,rfl,rfl,by decide,⟨rfl,rfl,rfl,oK⟩⟩
  · exact ⟨3,_,rfl,rfl,by decide,⟨rfl,rfl,rfl,oK⟩⟩
  · exact ⟨4,_,rfl,rfl,by decide,⟨rfl,rfl,rfl,oK⟩⟩
  · exact ⟨5,_,rfl,rfl,by decide,⟨rfl,rfl,rfl,oK⟩⟩
  · exact ⟨6,_,rfl,rfl,by decide,⟨rfl,rfl,rfl,oK⟩⟩
  · exact ⟨7,_,rfl,rfl,by decide,⟨rfl,rfl,rfl,oK⟩⟩
theorem uV {op : Int} (h : ¬(op = 2 ∨ op = 3 ∨ op = 4 ∨ op = 5 ∨ op = 6 ∨ op = 7 ∨ op = 8 ∨ op = 9)) : ∀ e' ∈ eY,op ≠ e'.1 := by
  intro e' he'
  simp only [eY,List.mem_cons,List.not_mem_nil,or_false] at he'
  rcases he' with rfl | rfl | rfl | rfl | rfl | rfl | rfl | rfl <;> simp only [ne_eq] <;> omega
theorem uW {op : Int} (h : op = 1 ∨ op = 10 ∨ op = 11 ∨ op = 12 ∨ op = 13) : ∃ (j : Nat) (e : Int × Value),fw[j]? = some e∧op = e.1∧(∀ e' ∈ fw.take j,op ≠ e'.1)∧v3 (D.ofVal e.2) (.agg [(a6 op),(.fn (.func (dU op)) [] []),(.fn (.func (dV op)) [] [])]) := by
  rcases h with rfl | rfl | rfl | rfl | rfl
  · exact ⟨0,_,rfl,rfl,by decide,⟨rfl,rfl,rfl,oK⟩⟩
  · exact ⟨1,_,rfl,rfl,by decide,⟨rfl,rfl,rfl,oK⟩⟩
  · exact ⟨2,_,rfl,rfl,by decide,⟨rfl,rfl,rfl,oK⟩⟩
  · exact ⟨3,_,rfl,rfl,by decide,⟨rfl,rfl,rfl,oK⟩⟩
  · exact ⟨4,_,rfl,rfl,by decide,⟨rfl,rfl,rfl,oK⟩⟩
theorem Bv {op : Int} (h : ¬(op = 1 ∨ op = 10 ∨ op = 11 ∨ op = 12 ∨ op = 13)) : ∀ e' ∈ fw,op ≠ e'.1 := by
  intro e' he'
  simp only [fw,List.mem_cons,List.not_mem_nil,or_false] at he'
  rcases he' with rfl | rfl | rfl | rfl | rfl <;> simp only [ne_eq] <;> omega
abbrev Ew (op : Int) (ws xs : List Int) (k w : Int) : Ct := ⟨121,[(i6 op),(.agg [(LI ws),(LI xs),(i6 k),(i6 w)])],true,(.tup [(.agg [(a6 op),(.fn (.func (dU op)) [] []),(.fn (.func (dV op)) [] [])]),(i6 (bf op ws k w)),(dB (ao (bf op ws k w)))])⟩
def lW (op : Int) (ws : List Int) (xs : List Int) (k : Int) (w : Int) : St := ⟨[(4,cD),(7,cK),(9,(i6 (bf op ws k w)))],[(.var 230 [(LI ws),(LI xs),(i6 k),(i6 w)]),d6,(.var 233 [(a6 op),(.fn (.func (dU op)) [] []),(.fn (.func (dV op)) [] [])])]⟩
def sw (op : Int) (ws : List Int) (xs : List Int) (k : Int) (w : Int) : St := ⟨[(4,cD),(7,cK),(9,(i6 (bf op ws k w))),(44,(.agg [(a6 op),(.fn (.func (dU op)) [] []),(.fn (.func (dV op)) [] [])]))],[(.var 230 [(LI ws),(LI xs),(i6 k),(i6 w)]),d6,(.var 233 [(a6 op),(.fn (.func (dU op)) [] []),(.fn (.func (dV op)) [] [])])]⟩
def sx (op : Int) (ws : List Int) (xs : List Int) (k : Int) (w : Int) : St := ⟨[(4,cD),(7,cK),(9,(i6 (bf op ws k w))),(45,(i6 (bf op ws k w)))],[(.var 230 [(LI ws),(LI xs),(i6 k),(i6 w)]),d6,(.var 233 [(a6 op),(.fn (.func (dU op)) [] []),(.fn (.func (dV op)) [] [])])]⟩
def sy (op : Int) (ws : List Int) (xs : List Int) (k : Int) (w : Int) : St := ⟨[(4,cD),(7,cK),(9,(i6 (bf op ws k w))),(46,(i6 (bf op ws k w)))],[(.var 230 [(LI ws),(LI xs),(i6 k),(i6 w)]),d6,(.var 233 [(a6 op),(.fn (.func (dU op)) [] []),(.fn (.func (dV op)) [] [])])]⟩
def lX (op : Int) (ws : List Int) (xs : List Int) (k : Int) (w : Int) : St := ⟨[(4,cD),(7,cK),(9,(i6 (bf op ws k w))),(44,(.agg [(a6 op),(.fn (.func (dU op)) [] []),(.fn (.func (dV op)) [] [])])),(45,(i6 (bf op ws k w)))],[(.var 230 [(LI ws),(LI xs),(i6 k),(i6 w)]),d6,(.var 233 [(a6 op),(.fn (.func (dU op)) [] []),(.fn (.func (dV op)) [] [])])]⟩
def lY (op : Int) (ws : List Int) (xs : List Int) (k : Int) (w : Int) : St := ⟨[(4,cD),(7,cK),(9,(i6 (bf op ws k w))),(44,(.agg [(a6 op),(.fn (.func (dU op)) [] []),(.fn (.func (dV op)) [] [])])),(46,(i6 (bf op ws k w)))],[(.var 230 [(LI ws),(LI xs),(i6 k),(i6 w)]),d6,(.var 233 [(a6 op),(.fn (.func (dU op)) [] []),(.fn (.func (dV op)) [] [])])]⟩
def lZ (op : Int) (ws : List Int) (xs : List Int) (k : Int) (w : Int) : St := ⟨[(4,cD),(7,cK),(9,(i6 (bf op ws k w))),(45,(i6 (bf op ws k w))),(46,(i6 (bf op ws k w)))],[(.var 230 [(LI ws),(LI xs),(i6 k),(i6 w)]),d6,(.var 233 [(a6 op),(.fn (.func (dU op)) [] []),(.fn (.func (dV op)) [] [])])]⟩
def sA (op : Int) (ws : List Int) (xs : List Int) (k : Int) (w : Int) : St := ⟨[(4,cD),(7,cK),(9,(i6 (bf op ws k w))),(46,(i6 (bf op ws k w))),(47,(dB (ao (bf op ws k w))))],[(.var 230 [(LI ws),(LI xs),(i6 k),(i6 w)]),d6,(.var 233 [(a6 op),(.fn (.func (dU op)) [] []),(.fn (.func (dV op)) [] [])])]⟩
def ji (op : Int) (ws : List Int) (xs : List Int) (k : Int) (w : Int) : St := ⟨[(4,cD),(7,cK),(9,(i6 (bf op ws k w))),(44,(.agg [(a6 op),(.fn (.func (dU op)) [] []),(.fn (.func (dV op)) [] [])])),(45,(i6 (bf op ws k w))),(46,(i6 (bf op ws k w)))],[(.var 230 [(LI ws),(LI xs),(i6 k),(i6 w)]),d6,(.var 233 [(a6 op),(.fn (.func (dU op)) [] []),(.fn (.func (dV op)) [] [])])]⟩
def l5 (op : Int) (ws : List Int) (xs : List Int) (k : Int) (w : Int) : St := ⟨[(4,cD),(7,cK),(9,(i6 (bf op ws k w))),(44,(.agg [(a6 op),(.fn (.func (dU op)) [] []),(.fn (.func (dV op)) [] [])])),(46,(i6 (bf op ws k w))),(47,(dB (ao (bf op ws k w))))],[(.var 230 [(LI ws),(LI xs),(i6 k),(i6 w)]),d6,(.var 233 [(a6 op),(.fn (.func (dU op)) [] []),(.fn (.func (dV op)) [] [])])]⟩
def kE (op : Int) (ws : List Int) (xs : List Int) (k : Int) (w : Int) : St := ⟨[(4,cD),(7,cK),(9,(i6 (bf op ws k w))),(45,(i6 (bf op ws k w))),(46,(i6 (bf op ws k w))),(47,(dB (ao (bf op ws k w))))],[(.var 230 [(LI ws),(LI xs),(i6 k),(i6 w)]),d6,(.var 233 [(a6 op),(.fn (.func (dU op)) [] []),(.fn (.func (dV op)) [] [])])]⟩
def hC (op : Int) (ws : List Int) (xs : List Int) (k : Int) (w : Int) : St := ⟨[(4,cD),(7,cK),(9,(i6 (bf op ws k w))),(44,(.agg [(a6 op),(.fn (.func (dU op)) [] []),(.fn (.func (dV op)) [] [])])),(45,(i6 (bf op ws k w))),(46,(i6 (bf op ws k w))),(47,(dB (ao (bf op ws k w))))],[(.var 230 [(LI ws),(LI xs),(i6 k),(i6 w)]),d6,(.var 233 [(a6 op),(.fn (.func (dU op)) [] []),(.fn (.func (dV op)) [] [])])]⟩
def pY (op : Int) (ws : List Int) (xs : List Int) (k : Int) (w : Int) : St := ⟨[(4,cD),(7,cK),(9,(i6 (bf op ws k w))),(44,(.agg [(a6 op),(.fn (.func (dU op)) [] []),(.fn (.func (dV op)) [] [])])),(46,(i6 (bf op ws k w))),(47,(dB (ao (bf op ws k w))))],[(.var 230 [(LI ws),(LI xs),(i6 k),(i6 w)]),(.var 233 [(a6 op),(.fn (.func (dU op)) [] []),(.fn (.func (dV op)) [] [])]),(.var 233 [(a6 op),(.fn (.func (dU op)) [] []),(.fn (.func (dV op)) [] [])])]⟩
def kF (op : Int) (ws : List Int) (xs : List Int) (k : Int) (w : Int) : St := ⟨[(4,cD),(7,cK),(9,(i6 (bf op ws k w))),(44,(.agg [(a6 op),(.fn (.func (dU op)) [] []),(.fn (.func (dV op)) [] [])])),(45,(i6 (bf op ws k w))),(46,(i6 (bf op ws k w))),(47,(dB (ao (bf op ws k w))))],[(.var 230 [(LI ws),(LI xs),(i6 k),(i6 w)]),(.var 233 [(a6 op),(.fn (.func (dU op)) [] []),(.fn (.func (dV op)) [] [])]),(.var 233 [(a6 op),(.fn (.func (dU op)) [] []),(.fn (.func (dV op)) [] [])])]⟩
def pZ (op : Int) (ws : List Int) (xs : List Int) (k : Int) (w : Int) : St := ⟨[(4,cD),(5,(i6 (bf op ws k w))),(7,cK),(9,(i6 (bf op ws k w))),(44,(.agg [(a6 op),(.fn (.func (dU op)) [] []),(.fn (.func (dV op)) [] [])])),(45,(i6 (bf op ws k w))),(46,(i6 (bf op ws k w))),(47,(dB (ao (bf op ws k w))))],[(.var 230 [(LI ws),(LI xs),(i6 k),(i6 w)]),(.var 233 [(a6 op),(.fn (.func (dU op)) [] []),(.fn (.func (dV op)) [] [])]),(.var 233 [(a6 op),(.fn (.func (dU op)) [] []),(.fn (.func (dV op)) [] [])])]⟩
def p5 (op : Int) (ws : List Int) (xs : List Int) (k : Int) (w : Int) : St := ⟨[(4,cD),(5,(i6 (bf op ws k w))),(6,(dB (ao (bf op ws k w))))],[(.var 230 [(LI ws),(LI xs),(i6 k),(i6 w)]),(.var 233 [(a6 op),(.fn (.func (dU op)) [] []),(.fn (.func (dV op)) [] [])]),(.var 233 [(a6 op),(.fn (.func (dU op)) [] []),(.fn (.func (dV op)) [] [])])]⟩
def kG (op : Int) (ws : List Int) (xs : List Int) (k : Int) (w : Int) : St := ⟨[(4,cD),(7,cK),(9,(i6 (bf op ws k w)))],[(.var 230 [(LI ws),(LI xs),(i6 k),(i6 w)]),d6,(.var 233 [(a6 op),(.fn (.func (dU op)) [] []),(.fn (.func (dV op)) [] [])])]⟩
def p6 (op : Int) (ws : List Int) (xs : List Int) (k : Int) (w : Int) : St := ⟨[(4,cD),(7,cK),(9,(i6 (bf op ws k w))),(44,(.agg [(a6 op),(.fn (.func (dU op)) [] []),(.fn (.func (dV op)) [] [])]))],[(.var 230 [(LI ws),(LI xs),(i6 k),(i6 w)]),d6,(.var 233 [(a6 op),(.fn (.func (dU op)) [] []),(.fn (.func (dV op)) [] [])])]⟩
def p7 (op : Int) (ws : List Int) (xs : List Int) (k : Int) (w : Int) : St := ⟨[(4,cD),(7,cK),(9,(i6 (bf op ws k w))),(45,(i6 (bf op ws k w)))],[(.var 230 [(LI ws),(LI xs),(i6 k),(i6 w)]),d6,(.var 233 [(a6 op),(.fn (.func (dU op)) [] []),(.fn (.func (dV op)) [] [])])]⟩
def p8 (op : Int) (ws : List Int) (xs : List Int) (k : Int) (w : Int) : St := ⟨[(4,cD),(7,cK),(9,(i6 (bf op ws k w))),(46,(i6 (bf op ws k w)))],[(.var 230 [(LI ws),(LI xs),(i6 k),(i6 w)]),d6,(.var 233 [(a6 op),(.fn (.func (dU op)) [] []),(.fn (.func (dV op)) [] [])])]⟩
def kH (op : Int) (ws : List Int) (xs : List Int) (k : Int) (w : Int) : St := ⟨[(4,cD),(7,cK),(9,(i6 (bf op ws k w))),(44,(.agg [(a6 op),(.fn (.func (dU op)) [] []),(.fn (.func (dV op)) [] [])])),(45,(i6 (bf op ws k w)))],[(.var 230 [(LI ws),(LI xs),(i6 k),(i6 w)]),d6,(.var 233 [(a6 op),(.fn (.func (dU op)) [] []),(.fn (.func (dV op)) [] [])])]⟩
def kI (op : Int) (ws : List Int) (xs : List Int) (k : Int) (w : Int) : St := ⟨[(4,cD),(7,cK),(9,(i6 (bf op ws k w))),(44,(.agg [(a6 op),(.fn (.func (dU op)) [] []),(.fn (.func (dV op)) [] [])])),(46,(i6 (bf op ws k w)))],[(.var 230 [(LI ws),(LI xs),(i6 k),(i6 w)]),d6,(.var 233 [(a6 op),(.fn (.func (dU op)) [] []),(.fn (.func (dV op)) [] [])])]⟩
def kJ (op : Int) (ws : List Int) (xs : List Int) (k : Int) (w : Int) : St := ⟨[(4,cD),(7,cK),(9,(i6 (bf op ws k w))),(45,(i6 (bf op ws k w))),(46,(i6 (bf op ws k w)))],[(.var 230 [(LI ws),(LI xs),(i6 k),(i6 w)]),d6,(.var 233 [(a6 op),(.fn (.func (dU op)) [] []),(.fn (.func (dV op)) [] [])])]⟩
def p9 (op : Int) (ws : List Int) (xs : List Int) (k : Int) (w : Int) : St := ⟨[(4,cD),(7,cK),(9,(i6 (bf op ws k w))),(46,(i6 (bf op ws k w))),(47,(dB (ao (bf op ws k w))))],[(.var 230 [(LI ws),(LI xs),(i6 k),(i6 w)]),d6,(.var 233 [(a6 op),(.fn (.func (dU op)) [] []),(.fn (.func (dV op)) [] [])])]⟩
def hD (op : Int) (ws : List Int) (xs : List Int) (k : Int) (w : Int) : St := ⟨[(4,cD),(7,cK),(9,(i6 (bf op ws k w))),(44,(.agg [(a6 op),(.fn (.func (dU op)) [] []),(.fn (.func (dV op)) [] [])])),(45,(i6 (bf op ws k w))),(46,(i6 (bf op ws k w)))],[(.var 230 [(LI ws),(LI xs),(i6 k),(i6 w)]),d6,(.var 233 [(a6 op),(.fn (.func (dU op)) [] []),(.fn (.func (dV op)) [] [])])]⟩
def kK (op : Int) (ws : List Int) (xs : List Int) (k : Int) (w : Int) : St := ⟨[(4,cD),(7,cK),(9,(i6 (bf op ws k w))),(44,(.agg [(a6 op),(.fn (.func (dU op)) [] []),(.fn (.func (dV op)) [] [])])),(46,(i6 (bf op ws k w))),(47,(dB (ao (bf op ws k w))))],[(.var 230 [(LI ws),(LI xs),(i6 k),(i6 w)]),d6,(.var 233 [(a6 op),(.fn (.func (dU op)) [] []),(.fn (.func (dV op)) [] [])])]⟩
def jE (op : Int) (ws : List Int) (xs : List Int) (k : Int) (w : Int) : St := ⟨[(4,cD),(7,cK),(9,(i6 (bf op ws k w))),(45,(i6 (bf op ws k w))),(46,(i6 (bf op ws k w))),(47,(dB (ao (bf op ws k w))))],[(.var 230 [(LI ws),(LI xs),(i6 k),(i6 w)]),d6,(.var 233 [(a6 op),(.fn (.func (dU op)) [] []),(.fn (.func (dV op)) [] [])])]⟩
def f8 (op : Int) (ws : List Int) (xs : List Int) (k : Int) (w : Int) : St := ⟨[(4,cD),(7,cK),(9,(i6 (bf op ws k w))),(44,(.agg [(a6 op),(.fn (.func (dU op)) [] []),(.fn (.func (dV op)) [] [])])),(45,(i6 (bf op ws k w))),(46,(i6 (bf op ws k w))),(47,(dB (ao (bf op ws k w))))],[(.var 230 [(LI ws),(LI xs),(i6 k),(i6 w)]),d6,(.var 233 [(a6 op),(.fn (.func (dU op)) [] []),(.fn (.func (dV op)) [] [])])]⟩
def oq (op : Int) (ws : List Int) (xs : List Int) (k : Int) (w : Int) : St := ⟨[(4,cD),(7,cK),(9,(i6 (bf op ws k w))),(44,(.agg [(a6 op),(.fn (.func (dU op)) [] []),(.fn (.func (dV op)) [] [])])),(46,(i6 (bf op ws k w))),(47,(dB (ao (bf op ws k w))))],[(.var 230 [(LI ws),(LI xs),(i6 k),(i6 w)]),(.var 233 [(a6 op),(.fn (.func (dU op)) [] []),(.fn (.func (dV op)) [] [])]),(.var 233 [(a6 op),(.fn (.func (dU op)) [] []),(.fn (.func (dV op)) [] [])])]⟩
def jF (op : Int) (ws : List Int) (xs : List Int) (k : Int) (w : Int) : St := ⟨[(4,cD),(7,cK),(9,(i6 (bf op ws k w))),(44,(.agg [(a6 op),(.fn (.func (dU op)) [] []),(.fn (.func (dV op)) [] [])])),(45,(i6 (bf op ws k w))),(46,(i6 (bf op ws k w))),(47,(dB (ao (bf op ws k w))))],[(.var 230 [(LI ws),(LI xs),(i6 k),(i6 w)]),(.var 233 [(a6 op),(.fn (.func (dU op)) [] []),(.fn (.func (dV op)) [] [])]),(.var 233 [(a6 op),(.fn (.func (dU op)) [] []),(.fn (.func (dV op)) [] [])])]⟩
def ot (op : Int) (ws : List Int) (xs : List Int) (k : Int) (w : Int) : St := ⟨[(4,cD),(5,(i6 (bf op ws k w))),(7,cK),(9,(i6 (bf op ws k w))),(44,(.agg [(a6 op),(.fn (.func (dU op)) [] []),(.fn (.func (dV op)) [] [])])),(45,(i6 (bf op ws k w))),(46,(i6 (bf op ws k w))),(47,(dB (ao (bf op ws k w))))],[(.var 230 [(LI ws),(LI xs),(i6 k),(i6 w)]),(.var 233 [(a6 op),(.fn (.func (dU op)) [] []),(.fn (.func (dV op)) [] [])]),(.var 233 [(a6 op),(.fn (.func (dU op)) [] []),(.fn (.func (dV op)) [] [])])]⟩
def ou (op : Int) (ws : List Int) (xs : List Int) (k : Int) (w : Int) : St := ⟨[(4,cD),(5,(i6 (bf op ws k w))),(6,(dB (ao (bf op ws k w))))],[(.var 230 [(LI ws),(LI xs),(i6 k),(i6 w)]),(.var 233 [(a6 op),(.fn (.func (dU op)) [] []),(.fn (.func (dV op)) [] [])]),(.var 233 [(a6 op),(.fn (.func (dU op)) [] []),(.fn (.func (dV op)) [] [])])]⟩
theorem w8 (op : Int) (ws xs : List Int) (k w : Int) (hw : ws.length ≤ 9223372036854775807) (h : zX op ws = true) : CC (Ew op ws xs k w) := by
 obtain ⟨h1,h2⟩ := yj h
 have hop := uT h
 refine af.vc (V := TT 4 (CS (op = 2 ∨ op = 3 ∨ op = 4 ∨ op = 5 ∨ op = 6 ∨ op = 7 ∨ op = 8 ∨ op = 9) (CC ym∧TT 1 ((∃ (j : Nat) (e : Int × Value),eY[j]? = some e∧op = e.1∧(∀ e' ∈ eY.take j,op ≠ e'.1)∧v3 (D.ofVal e.2) (.agg [(a6 op),(.fn (.func (dU op)) [] []),(.fn (.func (dV op)) [] [])]))∧TT 18 ((True∧(!decide ((ws.length : Int) = (bj op))) = false)∧TT 2 (CC (Ii ws)∧TT 1 ((!(ws.all ao)) = false∧TT 3 (GC (cW op ws xs k w)∧TT 1 ((lW op ws xs k w) = (lW op ws xs k w)∧(((sE (sw op ws xs k w) (True))∧(sE (sx op ws xs k w) (True))∧(sE (sy op ws xs k w) (True))∧True)∧((sE (lX op ws xs k w) (True))∧(sE (lY op ws xs k w) (True))∧True)∧((sE (lX op ws xs k w) (True))∧(sE (lZ op ws xs k w) (True))∧True)∧((sE (lY op ws xs k w) (True))∧(sE (lZ op ws xs k w) (True))∧(sE (sA op ws xs k w) (CC (gL (bf op ws k w))))∧True)∧((sE (ji op ws xs k w) (True))∧True)∧((sE (ji op ws xs k w) (True))∧(sE (l5 op ws xs k w) (CC (gL (bf op ws k w))))∧True)∧((sE (ji op ws xs k w) (True))∧(sE (kE op ws xs k w) (CC (gL (bf op ws k w))))∧True)∧((sE (l5 op ws xs k w) (True))∧(sE (kE op ws xs k w) (True))∧True)∧((sE (hC op ws xs k w) (CC (gL (bf op ws k w))))∧True)∧((sE (hC op ws xs k w) (True))∧(sE (pY op ws xs k w) (True))∧True)∧((sE (hC op ws xs k w) (True))∧True)∧((sE (kF op ws xs k w) (True))∧True)∧((sE (kF op ws xs k w) (True))∧True)∧((sE (pZ op ws xs k w) (True))∧True)∧((sE (p5 op ws xs k w) (True))∧True)∧True∧True)∧TT 3 (((bj op) = (bj op)∧((.fn (.func (dU op)) [] []) : D) = (.fn (.func (dU op)) [] [])∧((.fn (.func (dV op)) [] []) : D) = (.fn (.func (dV op)) [] [])∧True)∧(bf op ws k w) = (bf op ws k w)∧(ao (bf op ws k w)) = (ao (bf op ws k w))∧True)))))))) (CC ym∧TT 1 ((∀ e' ∈ eY,op ≠ e'.1)∧TT 8 (CC Bu∧TT 1 ((∃ (j : Nat) (e : Int × Value),fw[j]? = some e∧op = e.1∧(∀ e' ∈ fw.take j,op ≠ e'.1)∧v3 (D.ofVal e.2) (.agg [(a6 op),(.fn (.func (dU op)) [] []),(.fn (.func (dV op)) [] [])]))∧TT 15 ((True∧(!decide ((ws.length : Int) = (bj op))) = false)∧TT 2 (CC (Ii ws)∧TT 1 ((!(ws.all ao)) = false∧TT 3 (GC (cW op ws xs k w)∧TT 1 ((kG op ws xs k w) = (kG op ws xs k w)∧(((sE (p6 op ws xs k w) (True))∧(sE (p7 op ws xs k w) (True))∧(sE (p8 op ws xs k w) (True))∧True)∧((sE (kH op ws xs k w) (True))∧(sE (kI op ws xs k w) (True))∧True)∧((sE (kH op ws xs k w) (True))∧(sE (kJ op ws xs k w) (True))∧True)∧((sE (kI op ws xs k w) (True))∧(sE (kJ op ws xs k w) (True))∧(sE (p9 op ws xs k w) (CC (gL (bf op ws k w))))∧True)∧((sE (hD op ws xs k w) (True))∧True)∧((sE (hD op ws xs k w) (True))∧(sE (kK op ws xs k w) (CC (gL (bf op ws k w))))∧True)∧((sE (hD op ws xs k w) (True))∧(sE (jE op ws xs k w) (CC (gL (bf op ws k w))))∧True)∧((sE (kK op ws xs k w) (True))∧(sE (jE op ws xs k w) (True))∧True)∧((sE (f8 op ws xs k w) (CC (gL (bf op ws k w))))∧True)∧((sE (f8 op ws xs k w) (True))∧(sE (oq op ws xs k w) (True))∧True)∧((sE (f8 op ws xs k w) (True))∧True)∧((sE (jF op ws xs k w) (True))∧True)∧((sE (jF op ws xs k w) (True))∧True)∧((sE (ot op ws xs k w) (True))∧True)∧((sE (ou op ws xs k w) (True))∧True)∧True∧True)∧TT 3 (((bj op) = (bj op)∧((.fn (.func (dU op)) [] []) : D) = (.fn (.func (dU op)) [] [])∧((.fn (.func (dV op)) [] []) : D) = (.fn (.func (dV op)) [] [])∧True)∧(bf op ws k w) = (bf op ws k w)∧(ao (bf op ws k w)) = (ao (bf op ws k w))∧True)))))))))))) (.s 1 (op = 2 ∨ op = 3 ∨ op = 4 ∨ op = 5 ∨ op = 6 ∨ op = 7 ∨ op = 8 ∨ op = 9) (.w 1 [(0,ym.O),(2,.ent (.agg [(a6 op),(.fn (.func (dU op)) [] []),(.fn (.func (dV op)) [] [])]))] <| .w 4 [(10,.val (dB false)),(13,(Ii ws).O)] <| .u 38 (.w 6 [(3,.callg none false (i6 (bf op ws k w)))] <| .y 7 [(3,(gL (bf op ws k w)).O)] [((bm 7 0),(lW op ws xs k w)),((bm 7 1),(sw op ws xs k w)),((bm 7 2),(sx op ws xs k w)),((bm 7 4),(sy op ws xs k w)),((bm 7 3),(lX op ws xs k w)),((bm 7 5),(lY op ws xs k w)),((bm 7 6),(lZ op ws xs k w)),((bm 7 12),(sA op ws xs k w)),((bm 7 7),(ji op ws xs k w)),((bm 7 13),(l5 op ws xs k w)),((bm 7 14),(kE op ws xs k w)),((bm 7 15),(hC op ws xs k w)),((bm 7 29),(pY op ws xs k w)),((bm 7 31),(kF op ws xs k w)),((bm 7 63),(pZ op ws xs k w)),((bm 7 127),(p5 op ws xs k w))] <| .e)) (.w 1 [(0,ym.O),(2,.idx none)] <| .w 3 [(0,Bu.O),(2,.ent (.agg [(a6 op),(.fn (.func (dU op)) [] []),(.fn (.func (dV op)) [] [])]))] <| .w 4 [(10,.val (dB false)),(13,(Ii ws).O)] <| .u 38 (.w 6 [(3,.callg none false (i6 (bf op ws k w)))] <| .y 7 [(3,(gL (bf op ws k w)).O)] [((bm 7 0),(kG op ws xs k w)),((bm 7 1),(p6 op ws xs k w)),((bm 7 2),(p7 op ws xs k w)),((bm 7 4),(p8 op ws xs k w)),((bm 7 3),(kH op ws xs k w)),((bm 7 5),(kI op ws xs k w)),((bm 7 6),(kJ op ws xs k w)),((bm 7 12),(p9 op ws xs k w)),((bm 7 7),(hD op ws xs k w)),((bm 7 13),(kK op ws xs k w)),((bm 7 14),(jE op ws xs k w)),((bm 7 15),(f8 op ws xs k w)),((bm 7 29),(oq op ws xs k w)),((bm 7 31),(jF op ws xs k w)),((bm 7 63),(ot op ws xs k w)),((bm 7 127),(ou op ws xs k w))] <| .e))) Tryz.func121 rfl rfl rfl (by kernel_rfl) ?_
 refine tt ⟨fun hs0 => ?_,fun hs0 => ?_⟩
 · have hS := hs0
   exact ⟨mR,tt ⟨(uU hS),tt ⟨(nF h1),tt ⟨(jg ws hw),tt ⟨(wg h2),tt ⟨(JA op ws xs k w h),tt ⟨rfl,⟨⟨⟨⟨rfl,oK,oK⟩,⟨rfl,oK,oK⟩,⟨rfl,oK,oK⟩,oK⟩,⟨⟨rfl,oK,oK⟩,⟨rfl,oK,oK⟩,oK⟩,⟨⟨rfl,oK,oK⟩,⟨rfl,oK,oK⟩,oK⟩,⟨⟨rfl,oK,oK⟩,⟨rfl,oK,oK⟩,⟨rfl,(dC (bf op ws k w)),oK⟩,oK⟩,⟨⟨rfl,oK,oK⟩,oK⟩,⟨⟨rfl,oK,oK⟩,⟨rfl,(dC (bf op ws k w)),oK⟩,oK⟩,⟨⟨rfl,oK,oK⟩,⟨rfl,(dC (bf op ws k w)),oK⟩,oK⟩,⟨⟨rfl,oK,oK⟩,⟨rfl,oK,oK⟩,oK⟩,⟨⟨rfl,(dC (bf op ws k w)),oK⟩,oK⟩,⟨⟨rfl,oK,oK⟩,⟨rfl,oK,oK⟩,oK⟩,⟨⟨rfl,oK,oK⟩,oK⟩,⟨⟨rfl,oK,oK⟩,oK⟩,⟨⟨rfl,oK,oK⟩,oK⟩,⟨⟨rfl,oK,oK⟩,oK⟩,⟨⟨rfl,oK,oK⟩,oK⟩,oK,oK⟩,tt ⟨⟨rfl,rfl,rfl,oK⟩,rfl,rfl,oK⟩⟩⟩⟩⟩⟩⟩⟩⟩
 · have hS := hs0
   exact ⟨mR,tt ⟨(uV hS),tt ⟨rJ,tt ⟨(uW (by omega)),tt ⟨(nF h1),tt ⟨(jg ws hw),tt ⟨(wg h2),tt ⟨(JA op ws xs k w h),tt ⟨rfl,⟨⟨⟨⟨rfl,oK,oK⟩,⟨rfl,oK,oK⟩,⟨rfl,oK,oK⟩,oK⟩,⟨⟨rfl,oK,oK⟩,⟨rfl,oK,oK⟩,oK⟩,⟨⟨rfl,oK,oK⟩,⟨rfl,oK,oK⟩,oK⟩,⟨⟨rfl,oK,oK⟩,⟨rfl,oK,oK⟩,⟨rfl,(dC (bf op ws k w)),oK⟩,oK⟩,⟨⟨rfl,oK,oK⟩,oK⟩,⟨⟨rfl,oK,oK⟩,⟨rfl,(dC (bf op ws k w)),oK⟩,oK⟩,⟨⟨rfl,oK,oK⟩,⟨rfl,(dC (bf op ws k w)),oK⟩,oK⟩,⟨⟨rfl,oK,oK⟩,⟨rfl,oK,oK⟩,oK⟩,⟨⟨rfl,(dC (bf op ws k w)),oK⟩,oK⟩,⟨⟨rfl,oK,oK⟩,⟨rfl,oK,oK⟩,oK⟩,⟨⟨rfl,oK,oK⟩,oK⟩,⟨⟨rfl,oK,oK⟩,oK⟩,⟨⟨rfl,oK,oK⟩,oK⟩,⟨⟨rfl,oK,oK⟩,oK⟩,⟨⟨rfl,oK,oK⟩,oK⟩,oK,oK⟩,tt ⟨⟨rfl,rfl,rfl,oK⟩,rfl,rfl,oK⟩⟩⟩⟩⟩⟩⟩⟩⟩⟩⟩
abbrev Ey (op : Int) (ws xs : List Int) (k w : Int) : Ct := ⟨121,[(i6 op),(.agg [(LI ws),(LI xs),(i6 k),(i6 w)])],true,(.tup [(.agg [(i6 0),(.v .nilf),(.v .nilf)]),(i6 0),(dB false)])⟩
theorem w9 (op : Int) (ws xs : List Int) (k w : Int) (hw : ws.length ≤ 9223372036854775807) (h : zX op ws = false) : CC (Ey op ws xs k w) := by
 refine af.vc (V := TT 4 (CS (op = 2 ∨ op = 3 ∨ op = 4 ∨ op = 5 ∨ op = 6 ∨ op = 7 ∨ op = 8 ∨ op = 9) (CC ym∧TT 1 ((∃ (j : Nat) (e : Int × Value),eY[j]? = some e∧op = e.1∧(∀ e' ∈ eY.take j,op ≠ e'.1)∧v3 (D.ofVal e.2) (.agg [(a6 op),(.fn (.func (dU op)) [] []),(.fn (.func (dV op)) [] [])]))∧TT 8 (CS ((ws.length : Int) = (bj op)) (TT 10 ((True∧(!decide ((ws.length : Int) = (bj op))) = false)∧TT 2 (CC (Ii ws)∧TT 1 ((!(ws.all ao)) = true∧TT 7 (((0 : Int) = 0∧True∧True∧True)∧(0 : Int) = 0∧false = false∧True))))) (TT 10 ((True∧(!decide ((ws.length : Int) = (bj op))) = true)∧TT 11 (((0 : Int) = 0∧True∧True∧True)∧(0 : Int) = 0∧false = false∧True)))))) (CC ym∧TT 1 ((∀ e' ∈ eY,op ≠ e'.1)∧TT 8 (CS (op = 1 ∨ op = 10 ∨ op = 11 ∨ op = 12 ∨ op = 13) (CC Bu∧TT 1 ((∃ (j : Nat) (e : Int × Value),fw[j]? = some e∧op = e.1∧(∀ e' ∈ fw.take j,op ≠ e'.1)∧v3 (D.ofVal e.2) (.agg [(a6 op),(.fn (.func (dU op)) [] []),(.fn (.func (dV op)) [] [])]))∧TT 5 (CS ((ws.length : Int) = (bj op)) (TT 10 ((True∧(!decide ((ws.length : Int) = (bj op))) = false)∧TT 2 (CC (Ii ws)∧TT 1 ((!(ws.all ao)) = true∧TT 7 (((0 : Int) = 0∧True∧True∧True)∧(0 : Int) = 0∧false = false∧True))))) (TT 10 ((True∧(!decide ((ws.length : Int) = (bj op))) = true)∧TT 11 (((0 : Int) = 0∧True∧True∧True)∧(0 : Int) = 0∧false = false∧True)))))) (CC Bu∧TT 1 ((∀ e' ∈ fw,op ≠ e'.1)∧TT 27 (((0 : Int) = 0∧True∧True∧True)∧(0 : Int) = 0∧false = false∧True)))))))) (.s 1 (op = 2 ∨ op = 3 ∨ op = 4 ∨ op = 5 ∨ op = 6 ∨ op = 7 ∨ op = 8 ∨ op = 9) (.w 1 [(0,ym.O),(2,.ent (.agg [(a6 op),(.fn (.func (dU op)) [] []),(.fn (.func (dV op)) [] [])]))] <| .s 4 ((ws.length : Int) = (bj op)) (.w 4 [(10,.val (dB false)),(13,(Ii ws).O)] <| .t 38 (.e)) (.w 4 [(10,.val (dB true))] <| .e)) (.w 1 [(0,ym.O),(2,.idx none)] <| .s 3 (op = 1 ∨ op = 10 ∨ op = 11 ∨ op = 12 ∨ op = 13) (.w 3 [(0,Bu.O),(2,.ent (.agg [(a6 op),(.fn (.func (dU op)) [] []),(.fn (.func (dV op)) [] [])]))] <| .s 4 ((ws.length : Int) = (bj op)) (.w 4 [(10,.val (dB false)),(13,(Ii ws).O)] <| .t 38 (.e)) (.w 4 [(10,.val (dB true))] <| .e)) (.w 3 [(0,Bu.O),(2,.idx none)] <| .e))) Tryz.func121 rfl rfl rfl (by kernel_rfl) ?_
 refine tt ⟨fun hs0 => ?_,fun hs0 => ?_⟩
 · have hS := hs0
   refine ⟨mR,tt ⟨(uU hS),tt ⟨fun hs1 => ?_,fun hs1 => ?_⟩⟩⟩
   · exact tt ⟨(nF hs1),tt ⟨(jg ws hw),tt ⟨(MF (by rcases Gc h with h5 | ⟨_,h5⟩; exact absurd (by assumption) h5; rw [h5]; simp)),tt ⟨⟨rfl,oK,oK,oK⟩,rfl,rfl,oK⟩⟩⟩⟩
   · exact tt ⟨(nT hs1),tt ⟨⟨rfl,oK,oK,oK⟩,rfl,rfl,oK⟩⟩
 · have hS := hs0
   refine ⟨mR,tt ⟨(uV hS),tt ⟨fun hs2 => ?_,fun hs2 => ?_⟩⟩⟩
   · have hO := hs2
     refine ⟨rJ,tt ⟨(uW hO),tt ⟨fun hs3 => ?_,fun hs3 => ?_⟩⟩⟩
     · exact tt ⟨(nF hs3),tt ⟨(jg ws hw),tt ⟨(MF (by rcases Gc h with h5 | ⟨_,h5⟩; exact absurd (by assumption) h5; rw [h5]; simp)),tt ⟨⟨rfl,oK,oK,oK⟩,rfl,rfl,oK⟩⟩⟩⟩
     · exact tt ⟨(nT hs3),tt ⟨⟨rfl,oK,oK,oK⟩,rfl,rfl,oK⟩⟩
   · have hO := hs2
     exact ⟨rJ,tt ⟨(Bv hO),tt ⟨⟨rfl,oK,oK,oK⟩,rfl,rfl,oK⟩⟩⟩
theorem oX {op : Int} {ws : List Int} {k w : Int} (h : zX op ws = true) (h2 : ao (bf op ws k w) = true) : gj op ws k w = true := by rw [Bs,h,h2]; rfl
theorem cu {op : Int} {ws : List Int} {k w : Int} (h : ¬zX op ws = true) : gj op ws k w = false := by rw [Bs,Bool.eq_false_iff.2 h]; rfl
theorem cx {op : Int} {ws : List Int} {k w : Int} (h2 : ¬ao (bf op ws k w) = true) : gj op ws k w = false := by rw [Bs,Bool.eq_false_iff.2 h2,Bool.and_false]
theorem ly {op : Int} {ws : List Int} {k w : Int} (h : gj op ws k w = false) : 0 = bS op ws k w∧1 = jC op ws k w := by unfold bS jC; rw [h]; exact ⟨rfl,rfl⟩
theorem rK {op : Int} {ws : List Int} {k w : Int} (h : gj op ws k w = true) : bf op ws k w = bS op ws k w∧0 = jC op ws k w := by unfold bS jC; rw [h]; exact ⟨rfl,rfl⟩
abbrev Ka (op : Int) (ws : List Int) (k w : Int) : Ct := ⟨119,[(i6 op),(LI ws),(.agg [(i6 k),(i6 w)])],false,(.tup [(i6 (bS op ws k w)),(i6 (jC op ws k w))])⟩
theorem Gl (op : Int) (ws : List Int) (k w : Int) (hw : ws.length ≤ 9223372036854775807) : CC (Ka op ws k w) := by
 refine af.vc (V := TT 3 (CS (zX op ws = true) (TT 2 (((0 ≤ (0 : Int)∧0 < (2 : Int))∧True)∧TT 1 (((0 ≤ (1 : Int)∧1 < (2 : Int))∧True)∧TT 2 ((xT [] [(i6 op),(.agg [(LI ws),.nils,(i6 k),(i6 w)])] (Ew op ws [] k w).as∧CC (Ew op ws [] k w))∧TT 10 (CB (!(ao (bf op ws k w))) (TT 4 (((0 : Int) = (bS op ws k w)∧(1 : Int) = (jC op ws k w)∧True)∧(True∧True∧True))) (TT 5 (((bf op ws k w) = (bS op ws k w)∧(0 : Int) = (jC op ws k w)∧True)∧(True∧True∧True)))))))) (TT 2 (((0 ≤ (0 : Int)∧0 < (2 : Int))∧True)∧TT 1 (((0 ≤ (1 : Int)∧1 < (2 : Int))∧True)∧TT 2 ((xT [] [(i6 op),(.agg [(LI ws),.nils,(i6 k),(i6 w)])] (Ey op ws [] k w).as∧CC (Ey op ws [] k w))∧TT 14 (((0 : Int) = (bS op ws k w)∧(1 : Int) = (jC op ws k w)∧True)∧(True∧True∧True)))))))) (.s 1 (zX op ws = true) (.w 1 [(7,(Ew op ws [] k w).O')] <| .b 24 (.e) (.e)) (.w 1 [(7,(Ey op ws [] k w).O')] <| .e)) Tryz.func119 rfl rfl rfl (by kernel_rfl) ?_
 refine tt ⟨fun hs0 => ?_,fun hs0 => ?_⟩
 · have hb := hs0
   refine tt ⟨⟨by omega,oK⟩,tt ⟨⟨by omega,oK⟩,tt ⟨⟨⟨rfl,⟨rfl,rfl,rfl,rfl,oK⟩,oK⟩,(w8 op ws [] k w hw hb)⟩,tt ⟨fun hc24 => ?_,fun hc24 => ?_⟩⟩⟩⟩
   · refine tt ⟨⟨?_,?_,oK⟩,⟨oK,oK,oK⟩⟩
     all_goals (first | exact (ly (cu hb)).1 | exact (ly (cu hb)).2 | exact (ly (cx (by simpa using hc24))).1 | exact (ly (cx (by simpa using hc24))).2 | exact (rK (oX hb (by simpa using hc24))).1 | exact (rK (oX hb (by simpa using hc24))).2)
   · refine tt ⟨⟨?_,?_,oK⟩,⟨oK,oK,oK⟩⟩
     all_goals (first | exact (ly (cu hb)).1 | exact (ly (cu hb)).2 | exact (ly (cx (by simpa using hc24))).1 | exact (ly (cx (by simpa using hc24))).2 | exact (rK (oX hb (by simpa using hc24))).1 | exact (rK (oX hb (by simpa using hc24))).2)
 · have hb := hs0
   refine tt ⟨⟨by omega,oK⟩,tt ⟨⟨by omega,oK⟩,tt ⟨⟨⟨rfl,⟨rfl,rfl,rfl,rfl,oK⟩,oK⟩,(w9 op ws [] k w hw (Bool.eq_false_iff.2 hb))⟩,tt ⟨⟨?_,?_,oK⟩,⟨oK,oK,oK⟩⟩⟩⟩⟩
   all_goals (first | exact (ly (cu hb)).1 | exact (ly (cu hb)).2 | exact (ly (cx (by simpa using hc24))).1 | exact (ly (cx (by simpa using hc24))).2 | exact (rK (oX hb (by simpa using hc24))).1 | exact (rK (oX hb (by simpa using hc24))).2)
abbrev Kb (op : Int) (ws xs nums : List Int) : Ct := ⟨118,[(i6 op),(LI ws),(LI xs),(LI nums)],false,(.tup [(i6 (cz op ws xs nums)),(i6 (gK op ws xs nums))])⟩
abbrev qa (op : Int) (ws : List Int) (xs : List Int) (nums : List Int) : Lp (Nat) := fG [1,10,11,44,45,46] 11 (fun (i : Nat) => ⟨[(1,(LI ws)),(10,(.ptr 9 0 0 0)),(11,(.ptr 10 0 0 0)),(44,(LI xs)),(45,(i6 (xs.length : Int))),(46,(i6 (i : Int)))],[.dead,.dead,.dead,.dead,.dead,.dead,.dead,.dead,.dead,(.var 230 [(LI ws),(LI xs),(i6 (nums.getD 0 0)),(i6 (nums.getD 1 0))]),(.var 233 [(a6 op),(.fn (.func (dU op)) [] []),(.fn (.func (dV op)) [] [])])]⟩) (fun (i : Nat) => i ≤ xs.length∧∀ j,j < i → 0 ≤ xs.getD j 0∧xs.getD j 0 ≤ ah (ws.getD j 0)) (fun (i : Nat) => xs.length - i)
theorem Gm (op : Int) (ws xs nums : List Int) (hwl : ws.length ≤ 9223372036854775807) (hxl0 : xs.length ≤ 9223372036854775807) : CC (Kb op ws xs nums) := by
 refine af.vc (V := TT 2 (CS ((nums.length : Int) = 2) (TT 3 ((True∧(!decide ((nums.length : Int) = 2)) = false)∧TT 6 (CN ((xs.length : Int) = (ws.length : Int)) (TT 4 (((0 : Int) = (cz op ws xs nums)∧(1 : Int) = (gK op ws xs nums)∧True)∧(True∧True∧True))) (TT 3 (IX 0 nums.length∧TT 2 (IX 1 nums.length∧TT 4 (CS (zX op ws = true) (TT 2 (CC (Ew op ws xs (nums.getD 0 0) (nums.getD 1 0))∧TT 10 (CB (!(ao (bf op ws (nums.getD 0 0) (nums.getD 1 0)))) (TT 4 (((0 : Int) = (cz op ws xs nums)∧(1 : Int) = (gK op ws xs nums)∧True)∧(True∧True∧True))) (TT 3 (GO (qa op ws xs nums) 0 (∀ i,(qa op ws xs nums).inv i → TT 1 (CD ((i : Int) < (xs.length : Int)) (TT 1 (IX (i : Int) xs.length∧TT 3 (CS ((xs.getD i 0) < 0) (TT 2 ((True∧(decide ((xs.getD i 0) < 0)) = true)∧TT 12 (((0 : Int) = (cz op ws xs nums)∧(1 : Int) = (gK op ws xs nums)∧True)∧(True∧True∧True)))) (TT 2 ((True∧(decide ((xs.getD i 0) < 0)) = false)∧TT 3 (IX (i : Int) ws.length∧TT 1 (CC (yk (ws.getD i 0))∧TT 2 (CD ((xs.getD i 0) > (ah (ws.getD i 0))) (TT 4 (((0 : Int) = (cz op ws xs nums)∧(1 : Int) = (gK op ws xs nums)∧True)∧(True∧True∧True))) (W6 ((i + 1 : Nat) : Int)∧TT 1 (AG (qa op ws xs nums) i (i + 1))))))))))) (TT 3 (GC (cV op ws xs (nums.getD 0 0) (nums.getD 1 0))∧TT 4 (((iJ op ws xs (nums.getD 0 0) (nums.getD 1 0)) = (cz op ws xs nums)∧(0 : Int) = (gK op ws xs nums)∧True)∧(True∧True∧True))))))))))) (TT 2 (CC (Ey op ws xs (nums.getD 0 0) (nums.getD 1 0))∧TT 14 (((0 : Int) = (cz op ws xs nums)∧(1 : Int) = (gK op ws xs nums)∧True)∧(True∧True∧True))))))))))) (TT 3 ((True∧(!decide ((nums.length : Int) = 2)) = true)∧TT 10 (((0 : Int) = (cz op ws xs nums)∧(1 : Int) = (gK op ws xs nums)∧True)∧(True∧True∧True)))))) (.s 1 ((nums.length : Int) = 2) (.w 1 [(3,.val (dB false))] <| .b 25 (.e) (.s 4 (zX op ws = true) (.w 4 [(2,(Ew op ws xs (nums.getD 0 0) (nums.getD 1 0)).O)] <| .b 43 (.e) (.l (qa op ws xs nums) 0 (fun i => .b 47 (.s 10 ((xs.getD i 0) < 0) (.w 10 [(2,.val (dB true))] <| .e) (.w 10 [(2,.val (dB false)),(8,(yk (ws.getD i 0)).O)] <| .b 61 (.e) (.w 12 [(0,.val (i6 ((i + 1 : Nat) : Int)))] <| .e))) (.w 13 [(3,.callg none false (i6 (iJ op ws xs (nums.getD 0 0) (nums.getD 1 0))))] <| .e)))) (.w 4 [(2,(Ey op ws xs (nums.getD 0 0) (nums.getD 1 0)).O)] <| .e))) (.w 1 [(3,.val (dB true))] <| .e)) Tryz.func118 rfl rfl rfl (by kernel_rfl) ?_
 refine tt ⟨fun hs0 => ?_,fun hs0 => ?_⟩
 · refine tt ⟨(nF hs0),tt (cn (fun hc25 => ?_) (fun hc25 => ?_))⟩
   · refine tt ⟨⟨?_,?_,oK⟩,⟨oK,oK,oK⟩⟩
     all_goals (first | exact (a5 (pV (by omega))).1.symm | exact (a5 (pV (by omega))).2.symm | exact (a5 (pW (by omega))).1.symm | exact (a5 (pW (by omega))).2.symm | exact (a5 (b7 (cu hb))).1.symm | exact (a5 (b7 (cu hb))).2.symm | exact (a5 (b7 (cx (by simpa using hc43)))).1.symm | exact (a5 (b7 (cx (by simpa using hc43)))).2.symm | exact (a5 (jf (i := i) (by omega) (by omega))).1.symm | exact (a5 (jf (i := i) (by omega) (by omega))).2.symm | exact (di hl2 hxl hok hin).1.symm | exact (di hl2 hxl hok hin).2.symm)
   · refine tt ⟨ix,tt ⟨ix,tt ⟨fun hs1 => ?_,fun hs1 => ?_⟩⟩⟩
     · have hb := hs1
       refine tt ⟨(w8 op ws xs (nums.getD 0 0) (nums.getD 1 0) hwl hb),tt ⟨fun hc43 => ?_,fun hc43 => ?_⟩⟩
       · refine tt ⟨⟨?_,?_,oK⟩,⟨oK,oK,oK⟩⟩
         all_goals (first | exact (a5 (pV (by omega))).1.symm | exact (a5 (pV (by omega))).2.symm | exact (a5 (pW (by omega))).1.symm | exact (a5 (pW (by omega))).2.symm | exact (a5 (b7 (cu hb))).1.symm | exact (a5 (b7 (cu hb))).2.symm | exact (a5 (b7 (cx (by simpa using hc43)))).1.symm | exact (a5 (b7 (cx (by simpa using hc43)))).2.symm | exact (a5 (jf (i := i) (by omega) (by omega))).1.symm | exact (a5 (jf (i := i) (by omega) (by omega))).2.symm | exact (di hl2 hxl hok hin).1.symm | exact (di hl2 hxl hok hin).2.symm)
       · refine tt ?_
         have hok := oX hb (by simpa using hc43)
         have hl2 : nums.length = 2 := by omega
         have hxl : xs.length = ws.length := by omega
         refine ⟨rfl,⟨by omega,fun j hj => by omega⟩,?_⟩
         intro i hinv
         obtain ⟨hi,hall⟩ := hinv
         refine tt (cd (fun hc47 => ?_) (fun hc47 => ?_))
         · refine tt ⟨ix,tt ⟨fun hs2 => ?_,fun hs2 => ?_⟩⟩
           · refine tt ⟨(vT hs2),tt ⟨⟨?_,?_,oK⟩,⟨oK,oK,oK⟩⟩⟩
             all_goals (first | exact (a5 (pV (by omega))).1.symm | exact (a5 (pV (by omega))).2.symm | exact (a5 (pW (by omega))).1.symm | exact (a5 (pW (by omega))).2.symm | exact (a5 (b7 (cu hb))).1.symm | exact (a5 (b7 (cu hb))).2.symm | exact (a5 (b7 (cx (by simpa using hc43)))).1.symm | exact (a5 (b7 (cx (by simpa using hc43)))).2.symm | exact (a5 (jf (i := i) (by omega) (by omega))).1.symm | exact (a5 (jf (i := i) (by omega) (by omega))).2.symm | exact (di hl2 hxl hok hin).1.symm | exact (di hl2 hxl hok hin).2.symm)
           · refine tt ⟨(vF hs2),tt ⟨ix,tt ⟨(tr (ws.getD i 0)),tt (cd (fun hc61 => ?_) (fun hc61 => ?_))⟩⟩⟩
             · refine tt ⟨⟨?_,?_,oK⟩,⟨oK,oK,oK⟩⟩
               all_goals (first | exact (a5 (pV (by omega))).1.symm | exact (a5 (pV (by omega))).2.symm | exact (a5 (pW (by omega))).1.symm | exact (a5 (pW (by omega))).2.symm | exact (a5 (b7 (cu hb))).1.symm | exact (a5 (b7 (cu hb))).2.symm | exact (a5 (b7 (cx (by simpa using hc43)))).1.symm | exact (a5 (b7 (cx (by simpa using hc43)))).2.symm | exact (a5 (jf (i := i) (by omega) (by omega))).1.symm | exact (a5 (jf (i := i) (by omega) (by omega))).2.symm | exact (di hl2 hxl hok hin).1.symm | exact (di hl2 hxl hok hin).2.symm)
             · refine ⟨w6,tt ⟨(i + 1),rfl,?_,(?_ : xs.length - (i + 1) < xs.length - i)⟩⟩
               · exact ⟨by omega,br hall ⟨by omega,by omega⟩⟩
               · omega
         · have hin : zV ws xs = true := Gb (fun j hj => hall j (by omega))
           refine tt ⟨(LF op ws xs _ _ hok hxl hin),tt ⟨⟨?_,?_,oK⟩,⟨oK,oK,oK⟩⟩⟩
           all_goals (first | exact (a5 (pV (by omega))).1.symm | exact (a5 (pV (by omega))).2.symm | exact (a5 (pW (by omega))).1.symm | exact (a5 (pW (by omega))).2.symm | exact (a5 (b7 (cu hb))).1.symm | exact (a5 (b7 (cu hb))).2.symm | exact (a5 (b7 (cx (by simpa using hc43)))).1.symm | exact (a5 (b7 (cx (by simpa using hc43)))).2.symm | exact (a5 (jf (i := i) (by omega) (by omega))).1.symm | exact (a5 (jf (i := i) (by omega) (by omega))).2.symm | exact (di hl2 hxl hok hin).1.symm | exact (di hl2 hxl hok hin).2.symm)
     · have hb := hs1
       refine tt ⟨(w9 op ws xs (nums.getD 0 0) (nums.getD 1 0) hwl (Bool.eq_false_iff.2 hb)),tt ⟨⟨?_,?_,oK⟩,⟨oK,oK,oK⟩⟩⟩
       all_goals (first | exact (a5 (pV (by omega))).1.symm | exact (a5 (pV (by omega))).2.symm | exact (a5 (pW (by omega))).1.symm | exact (a5 (pW (by omega))).2.symm | exact (a5 (b7 (cu hb))).1.symm | exact (a5 (b7 (cu hb))).2.symm | exact (a5 (b7 (cx (by simpa using hc43)))).1.symm | exact (a5 (b7 (cx (by simpa using hc43)))).2.symm | exact (a5 (jf (i := i) (by omega) (by omega))).1.symm | exact (a5 (jf (i := i) (by omega) (by omega))).2.symm | exact (di hl2 hxl hok hin).1.symm | exact (di hl2 hxl hok hin).2.symm)
 · refine tt ⟨(nT hs0),tt ⟨⟨?_,?_,oK⟩,⟨oK,oK,oK⟩⟩⟩
   all_goals (first | exact (a5 (pV (by omega))).1.symm | exact (a5 (pV (by omega))).2.symm | exact (a5 (pW (by omega))).1.symm | exact (a5 (pW (by omega))).2.symm | exact (a5 (b7 (cu hb))).1.symm | exact (a5 (b7 (cu hb))).2.symm | exact (a5 (b7 (cx (by simpa using hc43)))).1.symm | exact (a5 (b7 (cx (by simpa using hc43)))).2.symm | exact (a5 (jf (i := i) (by omega) (by omega))).1.symm | exact (a5 (jf (i := i) (by omega) (by omega))).2.symm | exact (di hl2 hxl hok hin).1.symm | exact (di hl2 hxl hok hin).2.symm)
end Go.Proofs.YtgmpoenfoacofaaGreat
