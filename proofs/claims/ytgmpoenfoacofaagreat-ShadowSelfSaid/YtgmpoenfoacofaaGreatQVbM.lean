/-
  Package bits: the tables of operators; Width, Apply.
-/
import Derived.Test.YtgmpoenfoacofaaGreatQVbB
import Derived.Test.YtgmpoenfoacofaaGreatQMap
namespace Go.Proofs.YtgmpoenfoacofaaGreat
open Go.RowKit
set_option linter.unusedVariables false
set_option linter.unusedSimpArgs false
abbrev dU : aA := (.var 233 [(i6 0),(.v .nilf),(.v .nilf)])
abbrev aZ (op : Int) : D := (i6 (bi op))
abbrev cC : D := (.ptr 1 0 0 0)
abbrev cP : D := (.ptr 2 0 0 0)
set_option maxRecDepth 100000
def eG : List (Int × Value) := [(2,.agg #[.int .i64 1,.func (.func 127) #[] #[],.func (.func 128) #[] #[]]),(3,.agg #[.int .i64 2,.func (.func 130) #[] #[],.func (.func 131) #[] #[]]),(4,.agg #[.int .i64 2,.func (.func 130) #[] #[],.func (.func 132) #[] #[]]),(5,.agg #[.int .i64 2,.func (.func 130) #[] #[],.func (.func 133) #[] #[]]),(6,.agg #[.int .i64 2,.func (.func 130) #[] #[],.func (.func 134) #[] #[]]),(7,.agg #[.int .i64 2,.func (.func 130) #[] #[],.func (.func 135) #[] #[]]),(8,.agg #[.int .i64 2,.func (.func 136) #[] #[],.func (.func 137) #[] #[]]),(9,.agg #[.int .i64 2,.func (.func 136) #[] #[],.func (.func 139) #[] #[]])]
set_option maxHeartbeats 800000 in
theorem wv (w : World) : Calls Tryz.prog 123 #[] w (fun e w' => ∃ arr : Array MapEntry,e = .returned (.map (some w.heap.size))∧w' = w.alloc (.map arr 8)∧arr.toList.map (fun e => (e.key,e.val)) = eG.map (fun e => (Value.int .i64 e.1,e.2))) := by
  go_enter Tryz.func123,Tryz.ntmps123
  go_wp2_with (first | (rw [qO]) | (rw [sS Tryz.underlying237 Tryz.underlying3 (by rfl)]))
  go_ret
  exact ⟨_,rfl,rfl,rfl⟩
abbrev ww : Ct := ⟨123,[],false,.v (.mp eG)⟩
theorem lI : CC ww := ah.of_map wv
def e7 : List (Int × Value) := [(1,.agg #[.int .i64 0,.func (.func 140) #[] #[],.func (.func 141) #[] #[]]),(10,.agg #[.int .i64 3,.func (.func 142) #[] #[],.func (.func 143) #[] #[]]),(11,.agg #[.int .i64 2,.func (.func 144) #[] #[],.func (.func 145) #[] #[]]),(12,.agg #[.int .i64 1,.func (.func 146) #[] #[],.func (.func 147) #[] #[]]),(13,.agg #[.int .i64 1,.func (.func 148) #[] #[],.func (.func 149) #[] #[]])]
set_option maxHeartbeats 800000 in
theorem wx (w : World) : Calls Tryz.prog 124 #[] w (fun e w' => ∃ arr : Array MapEntry,e = .returned (.map (some w.heap.size))∧w' = w.alloc (.map arr 5)∧arr.toList.map (fun e => (e.key,e.val)) = e7.map (fun e => (Value.int .i64 e.1,e.2))) := by
  go_enter Tryz.func124,Tryz.ntmps124
  go_wp2_with (first | (rw [qO]) | (rw [sS Tryz.underlying237 Tryz.underlying3 (by rfl)]))
  go_ret
  exact ⟨_,rfl,rfl,rfl⟩
abbrev zG : Ct := ⟨124,[],false,.v (.mp e7)⟩
theorem qb : CC zG := ah.of_map wx
def dK (op : Int) : Nat :=
  if op = 1 then 140 else
  if op = 2 then 127 else
  if op = 3 then 130 else
  if op = 4 then 130 else
  if op = 5 then 130 else
  if op = 6 then 130 else
  if op = 7 then 130 else
  if op = 8 then 136 else
  if op = 9 then 136 else
  if op = 10 then 142 else
  if op = 11 then 144 else
  if op = 12 then 146 else
  if op = 13 then 148 else 0
def dM (op : Int) : Nat :=
  if op = 1 then 141 else
  if op = 2 then 128 else
  if op = 3 then 131 else
  if op = 4 then 132 else
  if op = 5 then 133 else
  if op = 6 then 134 else
  if op = 7 then 135 else
  if op = 8 then 137 else
  if op = 9 then 139 else
  if op = 10 then 143 else
  if op = 11 then 145 else
  if op = 12 then 147 else
  if op = 13 then 149 else 0
abbrev cW (op : Int) (ws xs : List Int) (k w : Int) : Ct := ⟨dK op,[(.agg [(LI ws),(LI xs),(i6 k),(i6 w)])],false,i6 (bc op ws k w)⟩
abbrev cV (op : Int) (ws xs : List Int) (k w : Int) : Ct := ⟨dM op,[(.agg [(LI ws),(LI xs),(i6 k),(i6 w)])],false,i6 (hE op ws xs k w)⟩
theorem sU {op : Int} {ws : List Int} (h : x6 op ws = true) : op = 1 ∨ op = 2 ∨ op = 3 ∨ op = 4 ∨ op = 5 ∨ op = 6 ∨ op = 7 ∨ op = 8 ∨ op = 9 ∨ op = 10 ∨ op = 11 ∨ op = 12 ∨ op = 13 := by
  have h1 := (wt h).1
  by_cases hr : op < 1 ∨ 13 < op
  · have : bi op = -1 := by unfold bi; rw [if_neg (by omega),if_neg (by omega),if_neg (by omega),if_neg (by omega)]
    omega
  · omega
theorem HF (op : Int) (ws xs : List Int) (k w : Int) (h : x6 op ws = true) : GC (cW op ws xs k w) := by
  obtain ⟨h1,hf⟩ := wt h
  rcases sU h with rfl | rfl | rfl | rfl | rfl | rfl | rfl | rfl | rfl | rfl | rfl | rfl | rfl
  · (have hl : (ws.length : Int) = 0 := h1); exact ⟨by kernel_rfl,CA ws xs k w (by omega) hf⟩
  · (have hl : (ws.length : Int) = 1 := h1); exact ⟨by kernel_rfl,Ep ws xs k w (by omega) hf⟩
  · (have hl : (ws.length : Int) = 2 := h1); exact ⟨by kernel_rfl,i5 ws xs k w (by omega) hf⟩
  · (have hl : (ws.length : Int) = 2 := h1); exact ⟨by kernel_rfl,i5 ws xs k w (by omega) hf⟩
  · (have hl : (ws.length : Int) = 2 := h1); exact ⟨by kernel_rfl,i5 ws xs k w (by omega) hf⟩
  · (have hl : (ws.length : Int) = 2 := h1); exact ⟨by kernel_rfl,i5 ws xs k w (by omega) hf⟩
  · (have hl : (ws.length : Int) = 2 := h1); exact ⟨by kernel_rfl,i5 ws xs k w (by omega) hf⟩
  · (have hl : (ws.length : Int) = 2 := h1); exact ⟨by kernel_rfl,Er ws xs k w (by omega) hf⟩
  · (have hl : (ws.length : Int) = 2 := h1); exact ⟨by kernel_rfl,Er ws xs k w (by omega) hf⟩
  · (have hl : (ws.length : Int) = 3 := h1); exact ⟨by kernel_rfl,Gv ws xs k w (by omega) hf⟩
  · (have hl : (ws.length : Int) = 2 := h1); exact ⟨by kernel_rfl,Gw ws xs k w (by omega) hf⟩
  · (have hl : (ws.length : Int) = 1 := h1); exact ⟨by kernel_rfl,CE ws xs k w (by omega) hf⟩
  · (have hl : (ws.length : Int) = 1 := h1); exact ⟨by kernel_rfl,Gx ws xs k w (by omega) hf⟩
theorem JJ (op : Int) (ws xs : List Int) (k w : Int) (h : fJ op ws k w = true) (hx : xs.length = ws.length) (hin : x4 ws xs = true) : GC (cV op ws xs k w) := by
  obtain ⟨h1,hf,h3⟩ := iR h
  have hb : x6 op ws = true := by unfold x6; rw [decide_eq_true h1,hf]; rfl
  rcases sU hb with rfl | rfl | rfl | rfl | rfl | rfl | rfl | rfl | rfl | rfl | rfl | rfl | rfl
  · (have hl : (ws.length : Int) = 0 := h1); exact ⟨by kernel_rfl,Es ws xs k w ⟨by omega,hf,hx,hin⟩⟩
  · (have hl : (ws.length : Int) = 1 := h1); exact ⟨by kernel_rfl,H7 ws xs k w ⟨by omega,hf,hx,hin⟩⟩
  · (have hl : (ws.length : Int) = 2 := h1); exact ⟨by kernel_rfl,H8 ws xs k w ⟨by omega,hf,hx,hin⟩⟩
  · (have hl : (ws.length : Int) = 2 := h1); exact ⟨by kernel_rfl,JG ws xs k w ⟨by omega,hf,hx,hin⟩⟩
  · (have hl : (ws.length : Int) = 2 := h1); exact ⟨by kernel_rfl,H9 ws xs k w ⟨by omega,hf,hx,hin⟩⟩
  · (have hl : (ws.length : Int) = 2 := h1); exact ⟨by kernel_rfl,Ia ws xs k w ⟨by omega,hf,hx,hin⟩⟩
  · (have hl : (ws.length : Int) = 2 := h1); exact ⟨by kernel_rfl,Ib ws xs k w ⟨by omega,hf,hx,hin⟩⟩
  · (have hl : (ws.length : Int) = 2 := h1); exact ⟨by kernel_rfl,JH ws xs k w ⟨by omega,hf,hx,hin⟩⟩
  · (have hl : (ws.length : Int) = 2 := h1); exact ⟨by kernel_rfl,JI ws xs k w ⟨by omega,hf,hx,hin⟩⟩
  · (have hl : (ws.length : Int) = 3 := h1); exact ⟨by kernel_rfl,Ie ws xs k w ⟨by omega,hf,hx,hin⟩ (wp h)⟩
  · (have hl : (ws.length : Int) = 2 := h1); exact ⟨by kernel_rfl,Ig ws xs k w ⟨by omega,hf,hx,hin⟩⟩
  · (have hl : (ws.length : Int) = 1 := h1); exact ⟨by kernel_rfl,Et ws xs k w ⟨by omega,hf,hx,hin⟩ (wq h)⟩
  · (have hl : (ws.length : Int) = 1 := h1); exact ⟨by kernel_rfl,Ic ws xs k w ⟨by omega,hf,hx,hin⟩⟩
theorem sV {op : Int} (h : op = 2 ∨ op = 3 ∨ op = 4 ∨ op = 5 ∨ op = 6 ∨ op = 7 ∨ op = 8 ∨ op = 9) : ∃ (j : Nat) (e : Int × Value),eG[j]? = some e∧op = e.1∧(∀ e' ∈ eG.take j,op ≠ e'.1)∧t4 (D.ofVal e.2) (.agg [(aZ op),(.fn (.func (dK op)) [] []),(.fn (.func (dM op)) [] [])]) := by
  rcases h with rfl | rfl | rfl | rfl | rfl | rfl | rfl | rfl
  · exact ⟨0,_,rfl,rfl,by decide,⟨rfl,rfl,rfl,oK⟩⟩
  · exact ⟨1,_,rfl,rfl,by decide,⟨rfl,rfl,rfl,oK⟩⟩
  · exact ⟨2,_,rfl,rfl,by decide,⟨rfl,rfl,rfl,oK⟩⟩
  · exact ⟨3,_,rfl,rfl,by decide,⟨rfl,rfl,rfl,oK⟩⟩
  · exact ⟨4,_,rfl,rfl,by decide,⟨rfl,rfl,rfl,oK⟩⟩
  · exact ⟨5,_,rfl,rfl,by decide,⟨rfl,rfl,rfl,oK⟩⟩
  · exact ⟨6,_,rfl,rfl,by decide,⟨rfl,rfl,rfl,oK⟩⟩
  · exact ⟨7,_,rfl,rfl,by decide,⟨rfl,rfl,rfl,oK⟩⟩
theorem sW {op : Int} (h : ¬(op = 2 ∨ op = 3 ∨ op = 4 ∨ op = 5 ∨ op = 6 ∨ op = 7 ∨ op = 8 ∨ op = 9)) : ∀ e' ∈ eG,op ≠ e'.1 := by
  intro e' he'
  simp only [eG,List.mem_cons,List.not_mem_nil,or_false] at he'
  rcases he' with rfl | rfl | rfl | rfl | rfl | rfl | rfl | rfl <;> simp only [ne_eq] <;> omega
theorem sY {op : Int} (h : op = 1 ∨ op = 10 ∨ op = 11 ∨ op = 12 ∨ op = 13) : ∃ (j : Nat) (e : Int × Value),e7[j]? = some e∧op = e.1∧(∀ e' ∈ e7.take j,op ≠ e'.1)∧t4 (D.ofVal e.2) (.agg [(aZ op),(.fn (.func (dK op)) [] []),(.fn (.func (dM op)) [] [])]) := by
  rcases h with rfl | rfl | rfl | rfl | rfl
  · exact ⟨0,_,rfl,rfl,by decide,⟨rfl,rfl,rfl,oK⟩⟩
  · exact ⟨1,_,rfl,rfl,by decide,⟨rfl,rfl,rfl,oK⟩⟩
  · exact ⟨2,_,rfl,rfl,by decide,⟨rfl,rfl,rfl,oK⟩⟩
  · exact ⟨3,_,rfl,rfl,by decide,⟨rfl,rfl,rfl,oK⟩⟩
  · exact ⟨4,_,rfl,rfl,by decide,⟨rfl,rfl,rfl,oK⟩⟩
theorem zH {op : Int} (h : ¬(op = 1 ∨ op = 10 ∨ op = 11 ∨ op = 12 ∨ op = 13)) : ∀ e' ∈ e7,op ≠ e'.1 := by
  intro e' he'
  simp only [e7,List.mem_cons,List.not_mem_nil,or_false] at he'
  rcases he' with rfl | rfl | rfl | rfl | rfl <;> simp only [ne_eq] <;> omega
abbrev CG (op : Int) (ws xs : List Int) (k w : Int) : Ct := ⟨121,[(i6 op),(.agg [(LI ws),(LI xs),(i6 k),(i6 w)])],true,(.tup [(.agg [(aZ op),(.fn (.func (dK op)) [] []),(.fn (.func (dM op)) [] [])]),(i6 (bc op ws k w)),(dB (am (bc op ws k w)))])⟩
def kK (op : Int) (ws : List Int) (xs : List Int) (k : Int) (w : Int) : St := ⟨[(4,cC),(7,cP),(9,(i6 (bc op ws k w)))],[(.var 230 [(LI ws),(LI xs),(i6 k),(i6 w)]),dU,(.var 233 [(aZ op),(.fn (.func (dK op)) [] []),(.fn (.func (dM op)) [] [])])]⟩
def qP (op : Int) (ws : List Int) (xs : List Int) (k : Int) (w : Int) : St := ⟨[(4,cC),(7,cP),(9,(i6 (bc op ws k w))),(44,(.agg [(aZ op),(.fn (.func (dK op)) [] []),(.fn (.func (dM op)) [] [])]))],[(.var 230 [(LI ws),(LI xs),(i6 k),(i6 w)]),dU,(.var 233 [(aZ op),(.fn (.func (dK op)) [] []),(.fn (.func (dM op)) [] [])])]⟩
def qQ (op : Int) (ws : List Int) (xs : List Int) (k : Int) (w : Int) : St := ⟨[(4,cC),(7,cP),(9,(i6 (bc op ws k w))),(45,(i6 (bc op ws k w)))],[(.var 230 [(LI ws),(LI xs),(i6 k),(i6 w)]),dU,(.var 233 [(aZ op),(.fn (.func (dK op)) [] []),(.fn (.func (dM op)) [] [])])]⟩
def qR (op : Int) (ws : List Int) (xs : List Int) (k : Int) (w : Int) : St := ⟨[(4,cC),(7,cP),(9,(i6 (bc op ws k w))),(46,(i6 (bc op ws k w)))],[(.var 230 [(LI ws),(LI xs),(i6 k),(i6 w)]),dU,(.var 233 [(aZ op),(.fn (.func (dK op)) [] []),(.fn (.func (dM op)) [] [])])]⟩
def kL (op : Int) (ws : List Int) (xs : List Int) (k : Int) (w : Int) : St := ⟨[(4,cC),(7,cP),(9,(i6 (bc op ws k w))),(44,(.agg [(aZ op),(.fn (.func (dK op)) [] []),(.fn (.func (dM op)) [] [])])),(45,(i6 (bc op ws k w)))],[(.var 230 [(LI ws),(LI xs),(i6 k),(i6 w)]),dU,(.var 233 [(aZ op),(.fn (.func (dK op)) [] []),(.fn (.func (dM op)) [] [])])]⟩
def kM (op : Int) (ws : List Int) (xs : List Int) (k : Int) (w : Int) : St := ⟨[(4,cC),(7,cP),(9,(i6 (bc op ws k w))),(44,(.agg [(aZ op),(.fn (.func (dK op)) [] []),(.fn (.func (dM op)) [] [])])),(46,(i6 (bc op ws k w)))],[(.var 230 [(LI ws),(LI xs),(i6 k),(i6 w)]),dU,(.var 233 [(aZ op),(.fn (.func (dK op)) [] []),(.fn (.func (dM op)) [] [])])]⟩
def kN (op : Int) (ws : List Int) (xs : List Int) (k : Int) (w : Int) : St := ⟨[(4,cC),(7,cP),(9,(i6 (bc op ws k w))),(45,(i6 (bc op ws k w))),(46,(i6 (bc op ws k w)))],[(.var 230 [(LI ws),(LI xs),(i6 k),(i6 w)]),dU,(.var 233 [(aZ op),(.fn (.func (dK op)) [] []),(.fn (.func (dM op)) [] [])])]⟩
def qS (op : Int) (ws : List Int) (xs : List Int) (k : Int) (w : Int) : St := ⟨[(4,cC),(7,cP),(9,(i6 (bc op ws k w))),(46,(i6 (bc op ws k w))),(47,(dB (am (bc op ws k w))))],[(.var 230 [(LI ws),(LI xs),(i6 k),(i6 w)]),dU,(.var 233 [(aZ op),(.fn (.func (dK op)) [] []),(.fn (.func (dM op)) [] [])])]⟩
def iC (op : Int) (ws : List Int) (xs : List Int) (k : Int) (w : Int) : St := ⟨[(4,cC),(7,cP),(9,(i6 (bc op ws k w))),(44,(.agg [(aZ op),(.fn (.func (dK op)) [] []),(.fn (.func (dM op)) [] [])])),(45,(i6 (bc op ws k w))),(46,(i6 (bc op ws k w)))],[(.var 230 [(LI ws),(LI xs),(i6 k),(i6 w)]),dU,(.var 233 [(aZ op),(.fn (.func (dK op)) [] []),(.fn (.func (dM op)) [] [])])]⟩
def kO (op : Int) (ws : List Int) (xs : List Int) (k : Int) (w : Int) : St := ⟨[(4,cC),(7,cP),(9,(i6 (bc op ws k w))),(44,(.agg [(aZ op),(.fn (.func (dK op)) [] []),(.fn (.func (dM op)) [] [])])),(46,(i6 (bc op ws k w))),(47,(dB (am (bc op ws k w))))],[(.var 230 [(LI ws),(LI xs),(i6 k),(i6 w)]),dU,(.var 233 [(aZ op),(.fn (.func (dK op)) [] []),(.fn (.func (dM op)) [] [])])]⟩
def jD (op : Int) (ws : List Int) (xs : List Int) (k : Int) (w : Int) : St := ⟨[(4,cC),(7,cP),(9,(i6 (bc op ws k w))),(45,(i6 (bc op ws k w))),(46,(i6 (bc op ws k w))),(47,(dB (am (bc op ws k w))))],[(.var 230 [(LI ws),(LI xs),(i6 k),(i6 w)]),dU,(.var 233 [(aZ op),(.fn (.func (dK op)) [] []),(.fn (.func (dM op)) [] [])])]⟩
def gr (op : Int) (ws : List Int) (xs : List Int) (k : Int) (w : Int) : St := ⟨[(4,cC),(7,cP),(9,(i6 (bc op ws k w))),(44,(.agg [(aZ op),(.fn (.func (dK op)) [] []),(.fn (.func (dM op)) [] [])])),(45,(i6 (bc op ws k w))),(46,(i6 (bc op ws k w))),(47,(dB (am (bc op ws k w))))],[(.var 230 [(LI ws),(LI xs),(i6 k),(i6 w)]),dU,(.var 233 [(aZ op),(.fn (.func (dK op)) [] []),(.fn (.func (dM op)) [] [])])]⟩
def ow (op : Int) (ws : List Int) (xs : List Int) (k : Int) (w : Int) : St := ⟨[(4,cC),(7,cP),(9,(i6 (bc op ws k w))),(44,(.agg [(aZ op),(.fn (.func (dK op)) [] []),(.fn (.func (dM op)) [] [])])),(46,(i6 (bc op ws k w))),(47,(dB (am (bc op ws k w))))],[(.var 230 [(LI ws),(LI xs),(i6 k),(i6 w)]),(.var 233 [(aZ op),(.fn (.func (dK op)) [] []),(.fn (.func (dM op)) [] [])]),(.var 233 [(aZ op),(.fn (.func (dK op)) [] []),(.fn (.func (dM op)) [] [])])]⟩
def jE (op : Int) (ws : List Int) (xs : List Int) (k : Int) (w : Int) : St := ⟨[(4,cC),(7,cP),(9,(i6 (bc op ws k w))),(44,(.agg [(aZ op),(.fn (.func (dK op)) [] []),(.fn (.func (dM op)) [] [])])),(45,(i6 (bc op ws k w))),(46,(i6 (bc op ws k w))),(47,(dB (am (bc op ws k w))))],[(.var 230 [(LI ws),(LI xs),(i6 k),(i6 w)]),(.var 233 [(aZ op),(.fn (.func (dK op)) [] []),(.fn (.func (dM op)) [] [])]),(.var 233 [(aZ op),(.fn (.func (dK op)) [] []),(.fn (.func (dM op)) [] [])])]⟩
def oz (op : Int) (ws : List Int) (xs : List Int) (k : Int) (w : Int) : St := ⟨[(4,cC),(5,(i6 (bc op ws k w))),(7,cP),(9,(i6 (bc op ws k w))),(44,(.agg [(aZ op),(.fn (.func (dK op)) [] []),(.fn (.func (dM op)) [] [])])),(45,(i6 (bc op ws k w))),(46,(i6 (bc op ws k w))),(47,(dB (am (bc op ws k w))))],[(.var 230 [(LI ws),(LI xs),(i6 k),(i6 w)]),(.var 233 [(aZ op),(.fn (.func (dK op)) [] []),(.fn (.func (dM op)) [] [])]),(.var 233 [(aZ op),(.fn (.func (dK op)) [] []),(.fn (.func (dM op)) [] [])])]⟩
def oA (op : Int) (ws : List Int) (xs : List Int) (k : Int) (w : Int) : St := ⟨[(4,cC),(5,(i6 (bc op ws k w))),(6,(dB (am (bc op ws k w))))],[(.var 230 [(LI ws),(LI xs),(i6 k),(i6 w)]),(.var 233 [(aZ op),(.fn (.func (dK op)) [] []),(.fn (.func (dM op)) [] [])]),(.var 233 [(aZ op),(.fn (.func (dK op)) [] []),(.fn (.func (dM op)) [] [])])]⟩
def jF (op : Int) (ws : List Int) (xs : List Int) (k : Int) (w : Int) : St := ⟨[(4,cC),(7,cP),(9,(i6 (bc op ws k w)))],[(.var 230 [(LI ws),(LI xs),(i6 k),(i6 w)]),dU,(.var 233 [(aZ op),(.fn (.func (dK op)) [] []),(.fn (.func (dM op)) [] [])])]⟩
def oB (op : Int) (ws : List Int) (xs : List Int) (k : Int) (w : Int) : St := ⟨[(4,cC),(7,cP),(9,(i6 (bc op ws k w))),(44,(.agg [(aZ op),(.fn (.func (dK op)) [] []),(.fn (.func (dM op)) [] [])]))],[(.var 230 [(LI ws),(LI xs),(i6 k),(i6 w)]),dU,(.var 233 [(aZ op),(.fn (.func (dK op)) [] []),(.fn (.func (dM op)) [] [])])]⟩
def oC (op : Int) (ws : List Int) (xs : List Int) (k : Int) (w : Int) : St := ⟨[(4,cC),(7,cP),(9,(i6 (bc op ws k w))),(45,(i6 (bc op ws k w)))],[(.var 230 [(LI ws),(LI xs),(i6 k),(i6 w)]),dU,(.var 233 [(aZ op),(.fn (.func (dK op)) [] []),(.fn (.func (dM op)) [] [])])]⟩
def oD (op : Int) (ws : List Int) (xs : List Int) (k : Int) (w : Int) : St := ⟨[(4,cC),(7,cP),(9,(i6 (bc op ws k w))),(46,(i6 (bc op ws k w)))],[(.var 230 [(LI ws),(LI xs),(i6 k),(i6 w)]),dU,(.var 233 [(aZ op),(.fn (.func (dK op)) [] []),(.fn (.func (dM op)) [] [])])]⟩
def jG (op : Int) (ws : List Int) (xs : List Int) (k : Int) (w : Int) : St := ⟨[(4,cC),(7,cP),(9,(i6 (bc op ws k w))),(44,(.agg [(aZ op),(.fn (.func (dK op)) [] []),(.fn (.func (dM op)) [] [])])),(45,(i6 (bc op ws k w)))],[(.var 230 [(LI ws),(LI xs),(i6 k),(i6 w)]),dU,(.var 233 [(aZ op),(.fn (.func (dK op)) [] []),(.fn (.func (dM op)) [] [])])]⟩
def jH (op : Int) (ws : List Int) (xs : List Int) (k : Int) (w : Int) : St := ⟨[(4,cC),(7,cP),(9,(i6 (bc op ws k w))),(44,(.agg [(aZ op),(.fn (.func (dK op)) [] []),(.fn (.func (dM op)) [] [])])),(46,(i6 (bc op ws k w)))],[(.var 230 [(LI ws),(LI xs),(i6 k),(i6 w)]),dU,(.var 233 [(aZ op),(.fn (.func (dK op)) [] []),(.fn (.func (dM op)) [] [])])]⟩
def jI (op : Int) (ws : List Int) (xs : List Int) (k : Int) (w : Int) : St := ⟨[(4,cC),(7,cP),(9,(i6 (bc op ws k w))),(45,(i6 (bc op ws k w))),(46,(i6 (bc op ws k w)))],[(.var 230 [(LI ws),(LI xs),(i6 k),(i6 w)]),dU,(.var 233 [(aZ op),(.fn (.func (dK op)) [] []),(.fn (.func (dM op)) [] [])])]⟩
def oE (op : Int) (ws : List Int) (xs : List Int) (k : Int) (w : Int) : St := ⟨[(4,cC),(7,cP),(9,(i6 (bc op ws k w))),(46,(i6 (bc op ws k w))),(47,(dB (am (bc op ws k w))))],[(.var 230 [(LI ws),(LI xs),(i6 k),(i6 w)]),dU,(.var 233 [(aZ op),(.fn (.func (dK op)) [] []),(.fn (.func (dM op)) [] [])])]⟩
def gt (op : Int) (ws : List Int) (xs : List Int) (k : Int) (w : Int) : St := ⟨[(4,cC),(7,cP),(9,(i6 (bc op ws k w))),(44,(.agg [(aZ op),(.fn (.func (dK op)) [] []),(.fn (.func (dM op)) [] [])])),(45,(i6 (bc op ws k w))),(46,(i6 (bc op ws k w)))],[(.var 230 [(LI ws),(LI xs),(i6 k),(i6 w)]),dU,(.var 233 [(aZ op),(.fn (.func (dK op)) [] []),(.fn (.func (dM op)) [] [])])]⟩
def jJ (op : Int) (ws : List Int) (xs : List Int) (k : Int) (w : Int) : St := ⟨[(4,cC),(7,cP),(9,(i6 (bc op ws k w))),(44,(.agg [(aZ op),(.fn (.func (dK op)) [] []),(.fn (.func (dM op)) [] [])])),(46,(i6 (bc op ws k w))),(47,(dB (am (bc op ws k w))))],[(.var 230 [(LI ws),(LI xs),(i6 k),(i6 w)]),dU,(.var 233 [(aZ op),(.fn (.func (dK op)) [] []),(.fn (.func (dM op)) [] [])])]⟩
def iT (op : Int) (ws : List Int) (xs : List Int) (k : Int) (w : Int) : St := ⟨[(4,cC),(7,cP),(9,(i6 (bc op ws k w))),(45,(i6 (bc op ws k w))),(46,(i6 (bc op ws k w))),(47,(dB (am (bc op ws k w))))],[(.var 230 [(LI ws),(LI xs),(i6 k),(i6 w)]),dU,(.var 233 [(aZ op),(.fn (.func (dK op)) [] []),(.fn (.func (dM op)) [] [])])]⟩
def fC (op : Int) (ws : List Int) (xs : List Int) (k : Int) (w : Int) : St := ⟨[(4,cC),(7,cP),(9,(i6 (bc op ws k w))),(44,(.agg [(aZ op),(.fn (.func (dK op)) [] []),(.fn (.func (dM op)) [] [])])),(45,(i6 (bc op ws k w))),(46,(i6 (bc op ws k w))),(47,(dB (am (bc op ws k w))))],[(.var 230 [(LI ws),(LI xs),(i6 k),(i6 w)]),dU,(.var 233 [(aZ op),(.fn (.func (dK op)) [] []),(.fn (.func (dM op)) [] [])])]⟩
def mC (op : Int) (ws : List Int) (xs : List Int) (k : Int) (w : Int) : St := ⟨[(4,cC),(7,cP),(9,(i6 (bc op ws k w))),(44,(.agg [(aZ op),(.fn (.func (dK op)) [] []),(.fn (.func (dM op)) [] [])])),(46,(i6 (bc op ws k w))),(47,(dB (am (bc op ws k w))))],[(.var 230 [(LI ws),(LI xs),(i6 k),(i6 w)]),(.var 233 [(aZ op),(.fn (.func (dK op)) [] []),(.fn (.func (dM op)) [] [])]),(.var 233 [(aZ op),(.fn (.func (dK op)) [] []),(.fn (.func (dM op)) [] [])])]⟩
def iU (op : Int) (ws : List Int) (xs : List Int) (k : Int) (w : Int) : St := ⟨[(4,cC),(7,cP),(9,(i6 (bc op ws k w))),(44,(.agg [(aZ op),(.fn (.func (dK op)) [] []),(.fn (.func (dM op)) [] [])])),(45,(i6 (bc op ws k w))),(46,(i6 (bc op ws k w))),(47,(dB (am (bc op ws k w))))],[(.var 230 [(LI ws),(LI xs),(i6 k),(i6 w)]),(.var 233 [(aZ op),(.fn (.func (dK op)) [] []),(.fn (.func (dM op)) [] [])]),(.var 233 [(aZ op),(.fn (.func (dK op)) [] []),(.fn (.func (dM op)) [] [])])]⟩
def mD (op : Int) (ws : List Int) (xs : List Int) (k : Int) (w : Int) : St := ⟨[(4,cC),(5,(i6 (bc op ws k w))),(7,cP),(9,(i6 (bc op ws k w))),(44,(.agg [(aZ op),(.fn (.func (dK op)) [] []),(.fn (.func (dM op)) [] [])])),(45,(i6 (bc op ws k w))),(46,(i6 (bc op ws k w))),(47,(dB (am (bc op ws k w))))],[(.var 230 [(LI ws),(LI xs),(i6 k),(i6 w)]),(.var 233 [(aZ op),(.fn (.func (dK op)) [] []),(.fn (.func (dM op)) [] [])]),(.var 233 [(aZ op),(.fn (.func (dK op)) [] []),(.fn (.func (dM op)) [] [])])]⟩
def mE (op : Int) (ws : List Int) (xs : List Int) (k : Int) (w : Int) : St := ⟨[(4,cC),(5,(i6 (bc op ws k w))),(6,(dB (am (bc op ws k w))))],[(.var 230 [(LI ws),(LI xs),(i6 k),(i6 w)]),(.var 233 [(aZ op),(.fn (.func (dK op)) [] []),(.fn (.func (dM op)) [] [])]),(.var 233 [(aZ op),(.fn (.func (dK op)) [] []),(.fn (.func (dM op)) [] [])])]⟩
theorem u7 (op : Int) (ws xs : List Int) (k w : Int) (hw : ws.length ≤ 9223372036854775807) (h : x6 op ws = true) : CC (CG op ws xs k w) := by
 obtain ⟨h1,h2⟩ := wt h
 have hop := sU h
 refine ah.vc (V := TT 4 (CS (op = 2 ∨ op = 3 ∨ op = 4 ∨ op = 5 ∨ op = 6 ∨ op = 7 ∨ op = 8 ∨ op = 9) (CC ww∧TT 1 ((∃ (j : Nat) (e : Int × Value),eG[j]? = some e∧op = e.1∧(∀ e' ∈ eG.take j,op ≠ e'.1)∧t4 (D.ofVal e.2) (.agg [(aZ op),(.fn (.func (dK op)) [] []),(.fn (.func (dM op)) [] [])]))∧TT 18 ((True∧(!decide ((ws.length : Int) = (bi op))) = false)∧TT 2 (CC (Gu ws)∧TT 1 ((!(ws.all am)) = false∧TT 3 (GC (cW op ws xs k w)∧TT 1 ((kK op ws xs k w) = (kK op ws xs k w)∧(((sE (qP op ws xs k w) (True))∧(sE (qQ op ws xs k w) (True))∧(sE (qR op ws xs k w) (True))∧True)∧((sE (kL op ws xs k w) (True))∧(sE (kM op ws xs k w) (True))∧True)∧((sE (kL op ws xs k w) (True))∧(sE (kN op ws xs k w) (True))∧True)∧((sE (kM op ws xs k w) (True))∧(sE (kN op ws xs k w) (True))∧(sE (qS op ws xs k w) (CC (fZ (bc op ws k w))))∧True)∧((sE (iC op ws xs k w) (True))∧True)∧((sE (iC op ws xs k w) (True))∧(sE (kO op ws xs k w) (CC (fZ (bc op ws k w))))∧True)∧((sE (iC op ws xs k w) (True))∧(sE (jD op ws xs k w) (CC (fZ (bc op ws k w))))∧True)∧((sE (kO op ws xs k w) (True))∧(sE (jD op ws xs k w) (True))∧True)∧((sE (gr op ws xs k w) (CC (fZ (bc op ws k w))))∧True)∧((sE (gr op ws xs k w) (True))∧(sE (ow op ws xs k w) (True))∧True)∧((sE (gr op ws xs k w) (True))∧True)∧((sE (jE op ws xs k w) (True))∧True)∧((sE (jE op ws xs k w) (True))∧True)∧((sE (oz op ws xs k w) (True))∧True)∧((sE (oA op ws xs k w) (True))∧True)∧True∧True)∧TT 3 (((bi op) = (bi op)∧((.fn (.func (dK op)) [] []) : D) = (.fn (.func (dK op)) [] [])∧((.fn (.func (dM op)) [] []) : D) = (.fn (.func (dM op)) [] [])∧True)∧(bc op ws k w) = (bc op ws k w)∧(am (bc op ws k w)) = (am (bc op ws k w))∧True)))))))) (CC ww∧TT 1 ((∀ e' ∈ eG,op ≠ e'.1)∧TT 8 (CC zG∧TT 1 ((∃ (j : Nat) (e : Int × Value),e7[j]? = some e∧op = e.1∧(∀ e' ∈ e7.take j,op ≠ e'.1)∧t4 (D.ofVal e.2) (.agg [(aZ op),(.fn (.func (dK op)) [] []),(.fn (.func (dM op)) [] [])]))∧TT 15 ((True∧(!decide ((ws.length : Int) = (bi op))) = false)∧TT 2 (CC (Gu ws)∧TT 1 ((!(ws.all am)) = false∧TT 3 (GC (cW op ws xs k w)∧TT 1 ((jF op ws xs k w) = (jF op ws xs k w)∧(((sE (oB op ws xs k w) (True))∧(sE (oC op ws xs k w) (True))∧(sE (oD op ws xs k w) (True))∧True)∧((sE (jG op ws xs k w) (True))∧(sE (jH op ws xs k w) (True))∧True)∧((sE (jG op ws xs k w) (True))∧(sE (jI op ws xs k w) (True))∧True)∧((sE (jH op ws xs k w) (True))∧(sE (jI op ws xs k w) (True))∧(sE (oE op ws xs k w) (CC (fZ (bc op ws k w))))∧True)∧((sE (gt op ws xs k w) (True))∧True)∧((sE (gt op ws xs k w) (True))∧(sE (jJ op ws xs k w) (CC (fZ (bc op ws k w))))∧True)∧((sE (gt op ws xs k w) (True))∧(sE (iT op ws xs k w) (CC (fZ (bc op ws k w))))∧True)∧((sE (jJ op ws xs k w) (True))∧(sE (iT op ws xs k w) (True))∧True)∧((sE (fC op ws xs k w) (CC (fZ (bc op ws k w))))∧True)∧((sE (fC op ws xs k w) (True))∧(sE (mC op ws xs k w) (True))∧True)∧((sE (fC op ws xs k w) (True))∧True)∧((sE (iU op ws xs k w) (True))∧True)∧((sE (iU op ws xs k w) (True))∧True)∧((sE (mD op ws xs k w) (True))∧True)∧((sE (mE op ws xs k w) (True))∧True)∧True∧True)∧TT 3 (((bi op) = (bi op)∧((.fn (.func (dK op)) [] []) : D) = (.fn (.func (dK op)) [] [])∧((.fn (.func (dM op)) [] []) : D) = (.fn (.func (dM op)) [] [])∧True)∧(bc op ws k w) = (bc op ws k w)∧(am (bc op ws k w)) = (am (bc op ws k w))∧True)))))))))))) (.s 1 (op = 2 ∨ op = 3 ∨ op = 4 ∨ op = 5 ∨ op = 6 ∨ op = 7 ∨ op = 8 ∨ op = 9) (.w 1 [(0,ww.O),(2,.ent (.agg [(aZ op),(.fn (.func (dK op)) [] []),(.fn (.func (dM op)) [] [])]))] <| .w 4 [(10,.val (dB false)),(13,(Gu ws).O)] <| .u 38 (.w 6 [(3,.callg none false (i6 (bc op ws k w)))] <| .y 7 [(3,(fZ (bc op ws k w)).O)] [((bm 7 0),(kK op ws xs k w)),((bm 7 1),(qP op ws xs k w)),((bm 7 2),(qQ op ws xs k w)),((bm 7 4),(qR op ws xs k w)),((bm 7 3),(kL op ws xs k w)),((bm 7 5),(kM op ws xs k w)),((bm 7 6),(kN op ws xs k w)),((bm 7 12),(qS op ws xs k w)),((bm 7 7),(iC op ws xs k w)),((bm 7 13),(kO op ws xs k w)),((bm 7 14),(jD op ws xs k w)),((bm 7 15),(gr op ws xs k w)),((bm 7 29),(ow op ws xs k w)),((bm 7 31),(jE op ws xs k w)),((bm 7 63),(oz op ws xs k w)),((bm 7 127),(oA op ws xs k w))] <| .e)) (.w 1 [(0,ww.O),(2,.idx none)] <| .w 3 [(0,zG.O),(2,.ent (.agg [(aZ op),(.fn (.func (dK op)) [] []),(.fn (.func (dM op)) [] [])]))] <| .w 4 [(10,.val (dB false)),(13,(Gu ws).O)] <| .u 38 (.w 6 [(3,.callg none false (i6 (bc op ws k w)))] <| .y 7 [(3,(fZ (bc op ws k w)).O)] [((bm 7 0),(jF op ws xs k w)),((bm 7 1),(oB op ws xs k w)),((bm 7 2),(oC op ws xs k w)),((bm 7 4),(oD op ws xs k w)),((bm 7 3),(jG op ws xs k w)),((bm 7 5),(jH op ws xs k w)),((bm 7 6),(jI op ws xs k w)),((bm 7 12),(oE op ws xs k w)),((bm 7 7),(gt op ws xs k w)),((bm 7 13),(jJ op ws xs k w)),((bm 7 14),(iT op ws xs k w)),((bm 7 15),(fC op ws xs k w)),((bm 7 29),(mC op ws xs k w)),((bm 7 31),(iU op ws xs k w)),((bm 7 63),(mD op ws xs k w)),((bm 7 127),(mE op ws xs k w))] <| .e))) Tryz.func121 rfl rfl rfl (by kernel_rfl) ?_
 refine tt ⟨fun hs0 => ?_,fun hs0 => ?_⟩
 · have hS := hs0
   exact ⟨lI,tt ⟨(sV hS),tt ⟨(nF h1),tt ⟨(iA ws hw),tt ⟨(t5 h2),tt ⟨(HF op ws xs k w h),tt ⟨rfl,⟨⟨⟨⟨rfl,oK,oK⟩,⟨rfl,oK,oK⟩,⟨rfl,oK,oK⟩,oK⟩,⟨⟨rfl,oK,oK⟩,⟨rfl,oK,oK⟩,oK⟩,⟨⟨rfl,oK,oK⟩,⟨rfl,oK,oK⟩,oK⟩,⟨⟨rfl,oK,oK⟩,⟨rfl,oK,oK⟩,⟨rfl,(dA (bc op ws k w)),oK⟩,oK⟩,⟨⟨rfl,oK,oK⟩,oK⟩,⟨⟨rfl,oK,oK⟩,⟨rfl,(dA (bc op ws k w)),oK⟩,oK⟩,⟨⟨rfl,oK,oK⟩,⟨rfl,(dA (bc op ws k w)),oK⟩,oK⟩,⟨⟨rfl,oK,oK⟩,⟨rfl,oK,oK⟩,oK⟩,⟨⟨rfl,(dA (bc op ws k w)),oK⟩,oK⟩,⟨⟨rfl,oK,oK⟩,⟨rfl,oK,oK⟩,oK⟩,⟨⟨rfl,oK,oK⟩,oK⟩,⟨⟨rfl,oK,oK⟩,oK⟩,⟨⟨rfl,oK,oK⟩,oK⟩,⟨⟨rfl,oK,oK⟩,oK⟩,⟨⟨rfl,oK,oK⟩,oK⟩,oK,oK⟩,tt ⟨⟨rfl,rfl,rfl,oK⟩,rfl,rfl,oK⟩⟩⟩⟩⟩⟩⟩⟩⟩
 · have hS := hs0
   exact ⟨lI,tt ⟨(sW hS),tt ⟨qb,tt ⟨(sY (by omega)),tt ⟨(nF h1),tt ⟨(iA ws hw),tt ⟨(t5 h2),tt ⟨(HF op ws xs k w h),tt ⟨rfl,⟨⟨⟨⟨rfl,oK,oK⟩,⟨rfl,oK,oK⟩,⟨rfl,oK,oK⟩,oK⟩,⟨⟨rfl,oK,oK⟩,⟨rfl,oK,oK⟩,oK⟩,⟨⟨rfl,oK,oK⟩,⟨rfl,oK,oK⟩,oK⟩,⟨⟨rfl,oK,oK⟩,⟨rfl,oK,oK⟩,⟨rfl,(dA (bc op ws k w)),oK⟩,oK⟩,⟨⟨rfl,oK,oK⟩,oK⟩,⟨⟨rfl,oK,oK⟩,⟨rfl,(dA (bc op ws k w)),oK⟩,oK⟩,⟨⟨rfl,oK,oK⟩,⟨rfl,(dA (bc op ws k w)),oK⟩,oK⟩,⟨⟨rfl,oK,oK⟩,⟨rfl,oK,oK⟩,oK⟩,⟨⟨rfl,(dA (bc op ws k w)),oK⟩,oK⟩,⟨⟨rfl,oK,oK⟩,⟨rfl,oK,oK⟩,oK⟩,⟨⟨rfl,oK,oK⟩,oK⟩,⟨⟨rfl,oK,oK⟩,oK⟩,⟨⟨rfl,oK,oK⟩,oK⟩,⟨⟨rfl,oK,oK⟩,oK⟩,⟨⟨rfl,oK,oK⟩,oK⟩,oK,oK⟩,tt ⟨⟨rfl,rfl,rfl,oK⟩,rfl,rfl,oK⟩⟩⟩⟩⟩⟩⟩⟩⟩⟩⟩
abbrev CH (op : Int) (ws xs : List Int) (k w : Int) : Ct := ⟨121,[(i6 op),(.agg [(LI ws),(LI xs),(i6 k),(i6 w)])],true,(.tup [(.agg [(i6 0),(.v .nilf),(.v .nilf)]),(i6 0),(dB false)])⟩
theorem u9 (op : Int) (ws xs : List Int) (k w : Int) (hw : ws.length ≤ 9223372036854775807) (h : x6 op ws = false) : CC (CH op ws xs k w) := by
 refine ah.vc (V := TT 4 (CS (op = 2 ∨ op = 3 ∨ op = 4 ∨ op = 5 ∨ op = 6 ∨ op = 7 ∨ op = 8 ∨ op = 9) (CC ww∧TT 1 ((∃ (j : Nat) (e : Int × Value),eG[j]? = some e∧op = e.1∧(∀ e' ∈ eG.take j,op ≠ e'.1)∧t4 (D.ofVal e.2) (.agg [(aZ op),(.fn (.func (dK op)) [] []),(.fn (.func (dM op)) [] [])]))∧TT 8 (CS ((ws.length : Int) = (bi op)) (TT 10 ((True∧(!decide ((ws.length : Int) = (bi op))) = false)∧TT 2 (CC (Gu ws)∧TT 1 ((!(ws.all am)) = true∧TT 7 (((0 : Int) = 0∧True∧True∧True)∧(0 : Int) = 0∧false = false∧True))))) (TT 10 ((True∧(!decide ((ws.length : Int) = (bi op))) = true)∧TT 11 (((0 : Int) = 0∧True∧True∧True)∧(0 : Int) = 0∧false = false∧True)))))) (CC ww∧TT 1 ((∀ e' ∈ eG,op ≠ e'.1)∧TT 8 (CS (op = 1 ∨ op = 10 ∨ op = 11 ∨ op = 12 ∨ op = 13) (CC zG∧TT 1 ((∃ (j : Nat) (e : Int × Value),e7[j]? = some e∧op = e.1∧(∀ e' ∈ e7.take j,op ≠ e'.1)∧t4 (D.ofVal e.2) (.agg [(aZ op),(.fn (.func (dK op)) [] []),(.fn (.func (dM op)) [] [])]))∧TT 5 (CS ((ws.length : Int) = (bi op)) (TT 10 ((True∧(!decide ((ws.length : Int) = (bi op))) = false)∧TT 2 (CC (Gu ws)∧TT 1 ((!(ws.all am)) = true∧TT 7 (((0 : Int) = 0∧True∧True∧True)∧(0 : Int) = 0∧false = false∧True))))) (TT 10 ((True∧(!decide ((ws.length : Int) = (bi op))) = true)∧TT 11 (((0 : Int) = 0∧True∧True∧True)∧(0 : Int) = 0∧false = false∧True)))))) (CC zG∧TT 1 ((∀ e' ∈ e7,op ≠ e'.1)∧TT 27 (((0 : Int) = 0∧True∧True∧True)∧(0 : Int) = 0∧false = false∧True)))))))) (.s 1 (op = 2 ∨ op = 3 ∨ op = 4 ∨ op = 5 ∨ op = 6 ∨ op = 7 ∨ op = 8 ∨ op = 9) (.w 1 [(0,ww.O),(2,.ent (.agg [(aZ op),(.fn (.func (dK op)) [] []),(.fn (.func (dM op)) [] [])]))] <| .s 4 ((ws.length : Int) = (bi op)) (.w 4 [(10,.val (dB false)),(13,(Gu ws).O)] <| .t 38 (.e)) (.w 4 [(10,.val (dB true))] <| .e)) (.w 1 [(0,ww.O),(2,.idx none)] <| .s 3 (op = 1 ∨ op = 10 ∨ op = 11 ∨ op = 12 ∨ op = 13) (.w 3 [(0,zG.O),(2,.ent (.agg [(aZ op),(.fn (.func (dK op)) [] []),(.fn (.func (dM op)) [] [])]))] <| .s 4 ((ws.length : Int) = (bi op)) (.w 4 [(10,.val (dB false)),(13,(Gu ws).O)] <| .t 38 (.e)) (.w 4 [(10,.val (dB true))] <| .e)) (.w 3 [(0,zG.O),(2,.idx none)] <| .e))) Tryz.func121 rfl rfl rfl (by kernel_rfl) ?_
 refine tt ⟨fun hs0 => ?_,fun hs0 => ?_⟩
 · have hS := hs0
   refine ⟨lI,tt ⟨(sV hS),tt ⟨fun hs1 => ?_,fun hs1 => ?_⟩⟩⟩
   · exact tt ⟨(nF hs1),tt ⟨(iA ws hw),tt ⟨(KC (by rcases Ej h with h5 | ⟨_,h5⟩; exact absurd (by assumption) h5; rw [h5]; simp)),tt ⟨⟨rfl,oK,oK,oK⟩,rfl,rfl,oK⟩⟩⟩⟩
   · exact tt ⟨(nT hs1),tt ⟨⟨rfl,oK,oK,oK⟩,rfl,rfl,oK⟩⟩
 · have hS := hs0
   refine ⟨lI,tt ⟨(sW hS),tt ⟨fun hs2 => ?_,fun hs2 => ?_⟩⟩⟩
   · have hO := hs2
     refine ⟨qb,tt ⟨(sY hO),tt ⟨fun hs3 => ?_,fun hs3 => ?_⟩⟩⟩
     · exact tt ⟨(nF hs3),tt ⟨(iA ws hw),tt ⟨(KC (by rcases Ej h with h5 | ⟨_,h5⟩; exact absurd (by assumption) h5; rw [h5]; simp)),tt ⟨⟨rfl,oK,oK,oK⟩,rfl,rfl,oK⟩⟩⟩⟩
     · exact tt ⟨(nT hs3),tt ⟨⟨rfl,oK,oK,oK⟩,rfl,rfl,oK⟩⟩
   · have hO := hs2
     exact ⟨qb,tt ⟨(zH hO),tt ⟨⟨rfl,oK,oK,oK⟩,rfl,rfl,oK⟩⟩⟩
theorem m6 {op : Int} {ws : List Int} {k w : Int} (h : x6 op ws = true) (h2 : am (bc op ws k w) = true) : fJ op ws k w = true := by rw [zE,h,h2]; rfl
theorem ct {op : Int} {ws : List Int} {k w : Int} (h : ¬x6 op ws = true) : fJ op ws k w = false := by rw [zE,Bool.eq_false_iff.2 h]; rfl
theorem cu {op : Int} {ws : List Int} {k w : Int} (h2 : ¬am (bc op ws k w) = true) : fJ op ws k w = false := by rw [zE,Bool.eq_false_iff.2 h2,Bool.and_false]
theorem kk {op : Int} {ws : List Int} {k w : Int} (h : fJ op ws k w = false) : 0 = bP op ws k w∧1 = iQ op ws k w := by unfold bP iQ; rw [h]; exact ⟨rfl,rfl⟩
theorem qc {op : Int} {ws : List Int} {k w : Int} (h : fJ op ws k w = true) : bc op ws k w = bP op ws k w∧0 = iQ op ws k w := by unfold bP iQ; rw [h]; exact ⟨rfl,rfl⟩
abbrev Ih (op : Int) (ws : List Int) (k w : Int) : Ct := ⟨119,[(i6 op),(LI ws),(.agg [(i6 k),(i6 w)])],false,(.tup [(i6 (bP op ws k w)),(i6 (iQ op ws k w))])⟩
theorem Eu (op : Int) (ws : List Int) (k w : Int) (hw : ws.length ≤ 9223372036854775807) : CC (Ih op ws k w) := by
 refine ah.vc (V := TT 3 (CS (x6 op ws = true) (TT 2 (((0 ≤ (0 : Int)∧0 < (2 : Int))∧True)∧TT 1 (((0 ≤ (1 : Int)∧1 < (2 : Int))∧True)∧TT 2 ((xu [] [(i6 op),(.agg [(LI ws),.nils,(i6 k),(i6 w)])] (CG op ws [] k w).as∧CC (CG op ws [] k w))∧TT 10 (CB (!(am (bc op ws k w))) (TT 4 (((0 : Int) = (bP op ws k w)∧(1 : Int) = (iQ op ws k w)∧True)∧(True∧True∧True))) (TT 5 (((bc op ws k w) = (bP op ws k w)∧(0 : Int) = (iQ op ws k w)∧True)∧(True∧True∧True)))))))) (TT 2 (((0 ≤ (0 : Int)∧0 < (2 : Int))∧True)∧TT 1 (((0 ≤ (1 : Int)∧1 < (2 : Int))∧True)∧TT 2 ((xu [] [(i6 op),(.agg [(LI ws),.nils,(i6 k),(i6 w)])] (CH op ws [] k w).as∧CC (CH op ws [] k w))∧TT 14 (((0 : Int) = (bP op ws k w)∧(1 : Int) = (iQ op ws k w)∧True)∧(True∧True∧True)))))))) (.s 1 (x6 op ws = true) (.w 1 [(7,(CG op ws [] k w).O')] <| .b 24 (.e) (.e)) (.w 1 [(7,(CH op ws [] k w).O')] <| .e)) Tryz.func119 rfl rfl rfl (by kernel_rfl) ?_
 refine tt ⟨fun hs0 => ?_,fun hs0 => ?_⟩
 · have hb := hs0
   refine tt ⟨⟨by omega,oK⟩,tt ⟨⟨by omega,oK⟩,tt ⟨⟨⟨rfl,⟨rfl,rfl,rfl,rfl,oK⟩,oK⟩,(u7 op ws [] k w hw hb)⟩,tt ⟨fun hc24 => ?_,fun hc24 => ?_⟩⟩⟩⟩
   · refine tt ⟨⟨?_,?_,oK⟩,⟨oK,oK,oK⟩⟩
     all_goals (first | exact (kk (ct hb)).1 | exact (kk (ct hb)).2 | exact (kk (cu (by simpa using hc24))).1 | exact (kk (cu (by simpa using hc24))).2 | exact (qc (m6 hb (by simpa using hc24))).1 | exact (qc (m6 hb (by simpa using hc24))).2)
   · refine tt ⟨⟨?_,?_,oK⟩,⟨oK,oK,oK⟩⟩
     all_goals (first | exact (kk (ct hb)).1 | exact (kk (ct hb)).2 | exact (kk (cu (by simpa using hc24))).1 | exact (kk (cu (by simpa using hc24))).2 | exact (qc (m6 hb (by simpa using hc24))).1 | exact (qc (m6 hb (by simpa using hc24))).2)
 · have hb := hs0
   refine tt ⟨⟨by omega,oK⟩,tt ⟨⟨by omega,oK⟩,tt ⟨⟨⟨rfl,⟨rfl,rfl,rfl,rfl,oK⟩,oK⟩,(u9 op ws [] k w hw (Bool.eq_false_iff.2 hb))⟩,tt ⟨⟨?_,?_,oK⟩,⟨oK,oK,oK⟩⟩⟩⟩⟩
   all_goals (first | exact (kk (ct hb)).1 | exact (kk (ct hb)).2 | exact (kk (cu (by simpa using hc24))).1 | exact (kk (cu (by simpa using hc24))).2 | exact (qc (m6 hb (by simpa using hc24))).1 | exact (qc (m6 hb (by simpa using hc24))).2)
abbrev Ii (op : Int) (ws xs nums : List Int) : Ct := ⟨118,[(i6 op),(LI ws),(LI xs),(LI nums)],false,(.tup [(i6 (cy op ws xs nums)),(i6 (fY op ws xs nums))])⟩
abbrev oG (op : Int) (ws : List Int) (xs : List Int) (nums : List Int) : Lp (Nat) := iy [1,10,11,44,45,46] 11 (fun (i : Nat) => ⟨[(1,(LI ws)),(10,(.ptr 9 0 0 0)),(11,(.ptr 10 0 0 0)),(44,(LI xs)),(45,(i6 (xs.length : Int))),(46,(i6 (i : Int)))],[.dead,.dead,.dead,.dead,.dead,.dead,.dead,.dead,.dead,(.var 230 [(LI ws),(LI xs),(i6 (nums.getD 0 0)),(i6 (nums.getD 1 0))]),(.var 233 [(aZ op),(.fn (.func (dK op)) [] []),(.fn (.func (dM op)) [] [])])]⟩) (fun (i : Nat) => i ≤ xs.length∧∀ j,j < i → 0 ≤ xs.getD j 0∧xs.getD j 0 ≤ af (ws.getD j 0)) (fun (i : Nat) => xs.length - i)
theorem Ew (op : Int) (ws xs nums : List Int) (hwl : ws.length ≤ 9223372036854775807) (hxl0 : xs.length ≤ 9223372036854775807) : CC (Ii op ws xs nums) := by
 refine ah.vc (V := TT 2 (CS ((nums.length : Int) = 2) (TT 3 ((True∧(!decide ((nums.length : Int) = 2)) = false)∧TT 6 (CN ((xs.length : Int) = (ws.length : Int)) (TT 4 (((0 : Int) = (cy op ws xs nums)∧(1 : Int) = (fY op ws xs nums)∧True)∧(True∧True∧True))) (TT 3 (IX 0 nums.length∧TT 2 (IX 1 nums.length∧TT 4 (CS (x6 op ws = true) (TT 2 (CC (CG op ws xs (nums.getD 0 0) (nums.getD 1 0))∧TT 10 (CB (!(am (bc op ws (nums.getD 0 0) (nums.getD 1 0)))) (TT 4 (((0 : Int) = (cy op ws xs nums)∧(1 : Int) = (fY op ws xs nums)∧True)∧(True∧True∧True))) (TT 3 (GO (oG op ws xs nums) 0 (∀ i,(oG op ws xs nums).inv i → TT 1 (CD ((i : Int) < (xs.length : Int)) (TT 1 (IX (i : Int) xs.length∧TT 3 (CS ((xs.getD i 0) < 0) (TT 2 ((True∧(decide ((xs.getD i 0) < 0)) = true)∧TT 12 (((0 : Int) = (cy op ws xs nums)∧(1 : Int) = (fY op ws xs nums)∧True)∧(True∧True∧True)))) (TT 2 ((True∧(decide ((xs.getD i 0) < 0)) = false)∧TT 3 (IX (i : Int) ws.length∧TT 1 (CC (wu (ws.getD i 0))∧TT 2 (CD ((xs.getD i 0) > (af (ws.getD i 0))) (TT 4 (((0 : Int) = (cy op ws xs nums)∧(1 : Int) = (fY op ws xs nums)∧True)∧(True∧True∧True))) (W6 ((i + 1 : Nat) : Int)∧TT 1 (AG (oG op ws xs nums) i (i + 1))))))))))) (TT 3 (GC (cV op ws xs (nums.getD 0 0) (nums.getD 1 0))∧TT 4 (((hE op ws xs (nums.getD 0 0) (nums.getD 1 0)) = (cy op ws xs nums)∧(0 : Int) = (fY op ws xs nums)∧True)∧(True∧True∧True))))))))))) (TT 2 (CC (CH op ws xs (nums.getD 0 0) (nums.getD 1 0))∧TT 14 (((0 : Int) = (cy op ws xs nums)∧(1 : Int) = (fY op ws xs nums)∧True)∧(True∧True∧True))))))))))) (TT 3 ((True∧(!decide ((nums.length : Int) = 2)) = true)∧TT 10 (((0 : Int) = (cy op ws xs nums)∧(1 : Int) = (fY op ws xs nums)∧True)∧(True∧True∧True)))))) (.s 1 ((nums.length : Int) = 2) (.w 1 [(3,.val (dB false))] <| .b 25 (.e) (.s 4 (x6 op ws = true) (.w 4 [(2,(CG op ws xs (nums.getD 0 0) (nums.getD 1 0)).O)] <| .b 43 (.e) (.l (oG op ws xs nums) 0 (fun i => .b 47 (.s 10 ((xs.getD i 0) < 0) (.w 10 [(2,.val (dB true))] <| .e) (.w 10 [(2,.val (dB false)),(8,(wu (ws.getD i 0)).O)] <| .b 61 (.e) (.w 12 [(0,.val (i6 ((i + 1 : Nat) : Int)))] <| .e))) (.w 13 [(3,.callg none false (i6 (hE op ws xs (nums.getD 0 0) (nums.getD 1 0))))] <| .e)))) (.w 4 [(2,(CH op ws xs (nums.getD 0 0) (nums.getD 1 0)).O)] <| .e))) (.w 1 [(3,.val (dB true))] <| .e)) Tryz.func118 rfl rfl rfl (by kernel_rfl) ?_
 refine tt ⟨fun hs0 => ?_,fun hs0 => ?_⟩
 · refine tt ⟨(nF hs0),tt (cn (fun hc25 => ?_) (fun hc25 => ?_))⟩
   · refine tt ⟨⟨?_,?_,oK⟩,⟨oK,oK,oK⟩⟩
     all_goals (first | exact (aY (oq (by omega))).1.symm | exact (aY (oq (by omega))).2.symm | exact (aY (ot (by omega))).1.symm | exact (aY (ot (by omega))).2.symm | exact (aY (b3 (ct hb))).1.symm | exact (aY (b3 (ct hb))).2.symm | exact (aY (b3 (cu (by simpa using hc43)))).1.symm | exact (aY (b3 (cu (by simpa using hc43)))).2.symm | exact (aY (iz (i := i) (by omega) (by omega))).1.symm | exact (aY (iz (i := i) (by omega) (by omega))).2.symm | exact (dh hl2 hxl hok hin).1.symm | exact (dh hl2 hxl hok hin).2.symm)
   · refine tt ⟨ix,tt ⟨ix,tt ⟨fun hs1 => ?_,fun hs1 => ?_⟩⟩⟩
     · have hb := hs1
       refine tt ⟨(u7 op ws xs (nums.getD 0 0) (nums.getD 1 0) hwl hb),tt ⟨fun hc43 => ?_,fun hc43 => ?_⟩⟩
       · refine tt ⟨⟨?_,?_,oK⟩,⟨oK,oK,oK⟩⟩
         all_goals (first | exact (aY (oq (by omega))).1.symm | exact (aY (oq (by omega))).2.symm | exact (aY (ot (by omega))).1.symm | exact (aY (ot (by omega))).2.symm | exact (aY (b3 (ct hb))).1.symm | exact (aY (b3 (ct hb))).2.symm | exact (aY (b3 (cu (by simpa using hc43)))).1.symm | exact (aY (b3 (cu (by simpa using hc43)))).2.symm | exact (aY (iz (i := i) (by omega) (by omega))).1.symm | exact (aY (iz (i := i) (by omega) (by omega))).2.symm | exact (dh hl2 hxl hok hin).1.symm | exact (dh hl2 hxl hok hin).2.symm)
       · refine tt ?_
         have hok := m6 hb (by simpa using hc43)
         have hl2 : nums.length = 2 := by omega
         have hxl : xs.length = ws.length := by omega
         refine ⟨rfl,⟨by omega,fun j hj => by omega⟩,?_⟩
         intro i hinv
         obtain ⟨hi,hall⟩ := hinv
         refine tt (cd (fun hc47 => ?_) (fun hc47 => ?_))
         · refine tt ⟨ix,tt ⟨fun hs2 => ?_,fun hs2 => ?_⟩⟩
           · refine tt ⟨(vT hs2),tt ⟨⟨?_,?_,oK⟩,⟨oK,oK,oK⟩⟩⟩
             all_goals (first | exact (aY (oq (by omega))).1.symm | exact (aY (oq (by omega))).2.symm | exact (aY (ot (by omega))).1.symm | exact (aY (ot (by omega))).2.symm | exact (aY (b3 (ct hb))).1.symm | exact (aY (b3 (ct hb))).2.symm | exact (aY (b3 (cu (by simpa using hc43)))).1.symm | exact (aY (b3 (cu (by simpa using hc43)))).2.symm | exact (aY (iz (i := i) (by omega) (by omega))).1.symm | exact (aY (iz (i := i) (by omega) (by omega))).2.symm | exact (dh hl2 hxl hok hin).1.symm | exact (dh hl2 hxl hok hin).2.symm)
           · refine tt ⟨(vF hs2),tt ⟨ix,tt ⟨(rI (ws.getD i 0)),tt (cd (fun hc61 => ?_) (fun hc61 => ?_))⟩⟩⟩
             · refine tt ⟨⟨?_,?_,oK⟩,⟨oK,oK,oK⟩⟩
               all_goals (first | exact (aY (oq (by omega))).1.symm | exact (aY (oq (by omega))).2.symm | exact (aY (ot (by omega))).1.symm | exact (aY (ot (by omega))).2.symm | exact (aY (b3 (ct hb))).1.symm | exact (aY (b3 (ct hb))).2.symm | exact (aY (b3 (cu (by simpa using hc43)))).1.symm | exact (aY (b3 (cu (by simpa using hc43)))).2.symm | exact (aY (iz (i := i) (by omega) (by omega))).1.symm | exact (aY (iz (i := i) (by omega) (by omega))).2.symm | exact (dh hl2 hxl hok hin).1.symm | exact (dh hl2 hxl hok hin).2.symm)
             · refine ⟨w6,tt ⟨(i + 1),rfl,?_,(?_ : xs.length - (i + 1) < xs.length - i)⟩⟩
               · exact ⟨by omega,cK hall ⟨by omega,by omega⟩⟩
               · omega
         · have hin : x4 ws xs = true := Ei (fun j hj => hall j (by omega))
           refine tt ⟨(JJ op ws xs _ _ hok hxl hin),tt ⟨⟨?_,?_,oK⟩,⟨oK,oK,oK⟩⟩⟩
           all_goals (first | exact (aY (oq (by omega))).1.symm | exact (aY (oq (by omega))).2.symm | exact (aY (ot (by omega))).1.symm | exact (aY (ot (by omega))).2.symm | exact (aY (b3 (ct hb))).1.symm | exact (aY (b3 (ct hb))).2.symm | exact (aY (b3 (cu (by simpa using hc43)))).1.symm | exact (aY (b3 (cu (by simpa using hc43)))).2.symm | exact (aY (iz (i := i) (by omega) (by omega))).1.symm | exact (aY (iz (i := i) (by omega) (by omega))).2.symm | exact (dh hl2 hxl hok hin).1.symm | exact (dh hl2 hxl hok hin).2.symm)
     · have hb := hs1
       refine tt ⟨(u9 op ws xs (nums.getD 0 0) (nums.getD 1 0) hwl (Bool.eq_false_iff.2 hb)),tt ⟨⟨?_,?_,oK⟩,⟨oK,oK,oK⟩⟩⟩
       all_goals (first | exact (aY (oq (by omega))).1.symm | exact (aY (oq (by omega))).2.symm | exact (aY (ot (by omega))).1.symm | exact (aY (ot (by omega))).2.symm | exact (aY (b3 (ct hb))).1.symm | exact (aY (b3 (ct hb))).2.symm | exact (aY (b3 (cu (by simpa using hc43)))).1.symm | exact (aY (b3 (cu (by simpa using hc43)))).2.symm | exact (aY (iz (i := i) (by omega) (by omega))).1.symm | exact (aY (iz (i := i) (by omega) (by omega))).2.symm | exact (dh hl2 hxl hok hin).1.symm | exact (dh hl2 hxl hok hin).2.symm)
 · refine tt ⟨(nT hs0),tt ⟨⟨?_,?_,oK⟩,⟨oK,oK,oK⟩⟩⟩
   all_goals (first | exact (aY (oq (by omega))).1.symm | exact (aY (oq (by omega))).2.symm | exact (aY (ot (by omega))).1.symm | exact (aY (ot (by omega))).2.symm | exact (aY (b3 (ct hb))).1.symm | exact (aY (b3 (ct hb))).2.symm | exact (aY (b3 (cu (by simpa using hc43)))).1.symm | exact (aY (b3 (cu (by simpa using hc43)))).2.symm | exact (aY (iz (i := i) (by omega) (by omega))).1.symm | exact (aY (iz (i := i) (by omega) (by omega))).2.symm | exact (dh hl2 hxl hok hin).1.symm | exact (dh hl2 hxl hok hin).2.symm)
end Go.Proofs.YtgmpoenfoacofaaGreat
