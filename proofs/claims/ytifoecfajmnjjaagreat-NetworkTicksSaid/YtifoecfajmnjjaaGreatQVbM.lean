/-
  Package bits: the tables of operators; Width, Apply.
-/
import Derived.Test.YtifoecfajmnjjaaGreatQVbB
import Derived.Test.YtifoecfajmnjjaaGreatQMap
namespace Go.Proofs.YtifoecfajmnjjaaGreat
open Go.RowKit
set_option linter.unusedVariables false
set_option linter.unusedSimpArgs false
abbrev dP : aE := (.var 209 [(i6 0),(.v .nilf),(.v .nilf)])
abbrev a5 (op : Int) : D := (i6 (bi op))
abbrev cA : D := (.ptr 1 0 0 0)
abbrev cO : D := (.ptr 2 0 0 0)
set_option maxRecDepth 100000
def eC : List (Int × Value) := [(2,.agg #[.int .i64 1,.func (.func 122) #[] #[],.func (.func 123) #[] #[]]),(3,.agg #[.int .i64 2,.func (.func 125) #[] #[],.func (.func 126) #[] #[]]),(4,.agg #[.int .i64 2,.func (.func 125) #[] #[],.func (.func 127) #[] #[]]),(5,.agg #[.int .i64 2,.func (.func 125) #[] #[],.func (.func 128) #[] #[]]),(6,.agg #[.int .i64 2,.func (.func 125) #[] #[],.func (.func 129) #[] #[]]),(7,.agg #[.int .i64 2,.func (.func 125) #[] #[],.func (.func 130) #[] #[]]),(8,.agg #[.int .i64 2,.func (.func 131) #[] #[],.func (.func 132) #[] #[]]),(9,.agg #[.int .i64 2,.func (.func 131) #[] #[],.func (.func 134) #[] #[]])]
set_option maxHeartbeats 800000 in
theorem u7 (w : World) : Calls Tryz.prog 118 #[] w (fun e w' => ∃ arr : Array MapEntry,e = .returned (.map (some w.heap.size))∧w' = w.alloc (.map arr 8)∧arr.toList.map (fun e => (e.key,e.val)) = eC.map (fun e => (Value.int .i64 e.1,e.2))) := by
  go_enter Tryz.func118,Tryz.ntmps118
  go_wp2_with (first | (rw [qz]) | (rw [sa Tryz.underlying213 Tryz.underlying3 (by rfl)]))
  go_ret
  exact ⟨_,rfl,rfl,rfl⟩
abbrev u9 : Ct := ⟨118,[],false,.v (.mp eC)⟩
theorem lJ : CC u9 := ai.of_map u7
def fc : List (Int × Value) := [(1,.agg #[.int .i64 0,.func (.func 135) #[] #[],.func (.func 136) #[] #[]]),(10,.agg #[.int .i64 3,.func (.func 137) #[] #[],.func (.func 138) #[] #[]]),(11,.agg #[.int .i64 2,.func (.func 139) #[] #[],.func (.func 140) #[] #[]]),(12,.agg #[.int .i64 1,.func (.func 141) #[] #[],.func (.func 142) #[] #[]]),(13,.agg #[.int .i64 1,.func (.func 143) #[] #[],.func (.func 144) #[] #[]])]
set_option maxHeartbeats 800000 in
theorem ve (w : World) : Calls Tryz.prog 119 #[] w (fun e w' => ∃ arr : Array MapEntry,e = .returned (.map (some w.heap.size))∧w' = w.alloc (.map arr 5)∧arr.toList.map (fun e => (e.key,e.val)) = fc.map (fun e => (Value.int .i64 e.1,e.2))) := by
  go_enter Tryz.func119,Tryz.ntmps119
  go_wp2_with (first | (rw [qz]) | (rw [sa Tryz.underlying213 Tryz.underlying3 (by rfl)]))
  go_ret
  exact ⟨_,rfl,rfl,rfl⟩
abbrev yu : Ct := ⟨119,[],false,.v (.mp fc)⟩
theorem pZ : CC yu := ai.of_map ve
def dC (op : Int) : Nat :=
  if op = 1 then 135 else
  if op = 2 then 122 else
  if op = 3 then 125 else
  if op = 4 then 125 else
  if op = 5 then 125 else
  if op = 6 then 125 else
  if op = 7 then 125 else
  if op = 8 then 131 else
  if op = 9 then 131 else
  if op = 10 then 137 else
  if op = 11 then 139 else
  if op = 12 then 141 else
  if op = 13 then 143 else 0
def dD (op : Int) : Nat :=
  if op = 1 then 136 else
  if op = 2 then 123 else
  if op = 3 then 126 else
  if op = 4 then 127 else
  if op = 5 then 128 else
  if op = 6 then 129 else
  if op = 7 then 130 else
  if op = 8 then 132 else
  if op = 9 then 134 else
  if op = 10 then 138 else
  if op = 11 then 140 else
  if op = 12 then 142 else
  if op = 13 then 144 else 0
abbrev cW (op : Int) (ws xs : List Int) (k w : Int) : Ct := ⟨dC op,[(.agg [(LI ws),(LI xs),(i6 k),(i6 w)])],false,i6 (bf op ws k w)⟩
abbrev cV (op : Int) (ws xs : List Int) (k w : Int) : Ct := ⟨dD op,[(.agg [(LI ws),(LI xs),(i6 k),(i6 w)])],false,i6 (hJ op ws xs k w)⟩
theorem se {op : Int} {ws : List Int} (h : wM op ws = true) : op = 1 ∨ op = 2 ∨ op = 3 ∨ op = 4 ∨ op = 5 ∨ op = 6 ∨ op = 7 ∨ op = 8 ∨ op = 9 ∨ op = 10 ∨ op = 11 ∨ op = 12 ∨ op = 13 := by
  have h1 := (u6 h).1
  by_cases hr : op < 1 ∨ 13 < op
  · have : bi op = -1 := by unfold bi; rw [if_neg (by omega),if_neg (by omega),if_neg (by omega),if_neg (by omega)]
    omega
  · omega
theorem FL (op : Int) (ws xs : List Int) (k w : Int) (h : wM op ws = true) : GC (cW op ws xs k w) := by
  obtain ⟨h1,hf⟩ := u6 h
  rcases se h with rfl | rfl | rfl | rfl | rfl | rfl | rfl | rfl | rfl | rfl | rfl | rfl | rfl
  · (have hl : (ws.length : Int) = 0 := h1); exact ⟨by kernel_rfl,A5 ws xs k w (by omega) hf⟩
  · (have hl : (ws.length : Int) = 1 := h1); exact ⟨by kernel_rfl,CX ws xs k w (by omega) hf⟩
  · (have hl : (ws.length : Int) = 2 := h1); exact ⟨by kernel_rfl,je ws xs k w (by omega) hf⟩
  · (have hl : (ws.length : Int) = 2 := h1); exact ⟨by kernel_rfl,je ws xs k w (by omega) hf⟩
  · (have hl : (ws.length : Int) = 2 := h1); exact ⟨by kernel_rfl,je ws xs k w (by omega) hf⟩
  · (have hl : (ws.length : Int) = 2 := h1); exact ⟨by kernel_rfl,je ws xs k w (by omega) hf⟩
  · (have hl : (ws.length : Int) = 2 := h1); exact ⟨by kernel_rfl,je ws xs k w (by omega) hf⟩
  · (have hl : (ws.length : Int) = 2 := h1); exact ⟨by kernel_rfl,CY ws xs k w (by omega) hf⟩
  · (have hl : (ws.length : Int) = 2 := h1); exact ⟨by kernel_rfl,CY ws xs k w (by omega) hf⟩
  · (have hl : (ws.length : Int) = 3 := h1); exact ⟨by kernel_rfl,EO ws xs k w (by omega) hf⟩
  · (have hl : (ws.length : Int) = 2 := h1); exact ⟨by kernel_rfl,EP ws xs k w (by omega) hf⟩
  · (have hl : (ws.length : Int) = 1 := h1); exact ⟨by kernel_rfl,A6 ws xs k w (by omega) hf⟩
  · (have hl : (ws.length : Int) = 1 := h1); exact ⟨by kernel_rfl,ER ws xs k w (by omega) hf⟩
theorem HB (op : Int) (ws xs : List Int) (k w : Int) (h : fT op ws k w = true) (hx : xs.length = ws.length) (hin : wK ws xs = true) : GC (cV op ws xs k w) := by
  obtain ⟨h1,hf,h3⟩ := iX h
  have hb : wM op ws = true := by unfold wM; rw [decide_eq_true h1,hf]; rfl
  rcases se hb with rfl | rfl | rfl | rfl | rfl | rfl | rfl | rfl | rfl | rfl | rfl | rfl | rfl
  · (have hl : (ws.length : Int) = 0 := h1); exact ⟨by kernel_rfl,CZ ws xs k w ⟨by omega,hf,hx,hin⟩⟩
  · (have hl : (ws.length : Int) = 1 := h1); exact ⟨by kernel_rfl,F9 ws xs k w ⟨by omega,hf,hx,hin⟩⟩
  · (have hl : (ws.length : Int) = 2 := h1); exact ⟨by kernel_rfl,Ga ws xs k w ⟨by omega,hf,hx,hin⟩⟩
  · (have hl : (ws.length : Int) = 2 := h1); exact ⟨by kernel_rfl,Hy ws xs k w ⟨by omega,hf,hx,hin⟩⟩
  · (have hl : (ws.length : Int) = 2 := h1); exact ⟨by kernel_rfl,Gb ws xs k w ⟨by omega,hf,hx,hin⟩⟩
  · (have hl : (ws.length : Int) = 2 := h1); exact ⟨by kernel_rfl,Gc ws xs k w ⟨by omega,hf,hx,hin⟩⟩
  · (have hl : (ws.length : Int) = 2 := h1); exact ⟨by kernel_rfl,Gd ws xs k w ⟨by omega,hf,hx,hin⟩⟩
  · (have hl : (ws.length : Int) = 2 := h1); exact ⟨by kernel_rfl,Hz ws xs k w ⟨by omega,hf,hx,hin⟩⟩
  · (have hl : (ws.length : Int) = 2 := h1); exact ⟨by kernel_rfl,HA ws xs k w ⟨by omega,hf,hx,hin⟩⟩
  · (have hl : (ws.length : Int) = 3 := h1); exact ⟨by kernel_rfl,Gf ws xs k w ⟨by omega,hf,hx,hin⟩ (u4 h)⟩
  · (have hl : (ws.length : Int) = 2 := h1); exact ⟨by kernel_rfl,Gg ws xs k w ⟨by omega,hf,hx,hin⟩⟩
  · (have hl : (ws.length : Int) = 1 := h1); exact ⟨by kernel_rfl,C0 ws xs k w ⟨by omega,hf,hx,hin⟩ (u5 h)⟩
  · (have hl : (ws.length : Int) = 1 := h1); exact ⟨by kernel_rfl,Ge ws xs k w ⟨by omega,hf,hx,hin⟩⟩
theorem sf {op : Int} (h : op = 2 ∨ op = 3 ∨ op = 4 ∨ op = 5 ∨ op = 6 ∨ op = 7 ∨ op = 8 ∨ op = 9) : ∃ (j : Nat) (e : Int × Value),eC[j]? = some e∧op = e.1∧(∀ e' ∈ eC.take j,op ≠ e'.1)∧sY (D.ofVal e.2) (.agg [(a5 op),(.fn (.func (dC op)) [] []),(.fn (.func (dD op)) [] [])]) := by
  rcases h with rfl | rfl | rfl | rfl | rfl | rfl | rfl | rfl
  · exact ⟨0,_,rfl,rfl,by decide,⟨rfl,rfl,rfl,oK⟩⟩
  · exact ⟨1,_,rfl,rfl,by decide,⟨rfl,rfl,rfl,oK⟩⟩
  · exact ⟨2,_,rfl,rfl,by decide,⟨rfl,rfl,rfl,oK⟩⟩
  · exact ⟨3,_,rfl,rfl,by decide,⟨rfl,rfl,rfl,oK⟩⟩
  · exact ⟨4,_,rfl,rfl,by decide,⟨rfl,rfl,rfl,oK⟩⟩
  · exact ⟨5,_,rfl,rfl,by decide,⟨rfl,rfl,rfl,oK⟩⟩
  · exact ⟨6,_,rfl,rfl,by decide,⟨rfl,rfl,rfl,oK⟩⟩
  · exact ⟨7,_,rfl,rfl,by decide,⟨rfl,rfl,rfl,oK⟩⟩
theorem sg {op : Int} (h : ¬(op = 2 ∨ op = 3 ∨ op = 4 ∨ op = 5 ∨ op = 6 ∨ op = 7 ∨ op = 8 ∨ op = 9)) : ∀ e' ∈ eC,op ≠ e'.1 := by
  intro e' he'
  simp only [eC,List.mem_cons,List.not_mem_nil,or_false] at he'
  rcases he' with rfl | rfl | rfl | rfl | rfl | rfl | rfl | rfl <;> simp only [ne_eq] <;> omega
theorem si {op : Int} (h : op = 1 ∨ op = 10 ∨ op = 11 ∨ op = 12 ∨ op = 13) : ∃ (j : Nat) (e : Int × Value),fc[j]? = some e∧op = e.1∧(∀ e' ∈ fc.take j,op ≠ e'.1)∧sY (D.ofVal e.2) (.agg [(a5 op),(.fn (.func (dC op)) [] []),(.fn (.func (dD op)) [] [])]) := by
  rcases h with rfl | rfl | rfl | rfl | rfl
  · exact ⟨0,_,rfl,rfl,by decide,⟨rfl,rfl,rfl,oK⟩⟩
  · exact ⟨1,_,rfl,rfl,by decide,⟨rfl,rfl,rfl,oK⟩⟩
  · exact ⟨2,_,rfl,rfl,by decide,⟨rfl,rfl,rfl,oK⟩⟩
  · exact ⟨3,_,rfl,rfl,by decide,⟨rfl,rfl,rfl,oK⟩⟩
  · exact ⟨4,_,rfl,rfl,by decide,⟨rfl,rfl,rfl,oK⟩⟩
theorem yv {op : Int} (h : ¬(op = 1 ∨ op = 10 ∨ op = 11 ∨ op = 12 ∨ op = 13)) : ∀ e' ∈ fc,op ≠ e'.1 := by
  intro e' he'
  simp only [fc,List.mem_cons,List.not_mem_nil,or_false] at he'
  rcases he' with rfl | rfl | rfl | rfl | rfl <;> simp only [ne_eq] <;> omega
abbrev A8 (op : Int) (ws xs : List Int) (k w : Int) : Ct := ⟨117,[(i6 op),(.agg [(LI ws),(LI xs),(i6 k),(i6 w)])],true,(.tup [(.agg [(a5 op),(.fn (.func (dC op)) [] []),(.fn (.func (dD op)) [] [])]),(i6 (bf op ws k w)),(dB (an (bf op ws k w)))])⟩
def kT (op : Int) (ws : List Int) (xs : List Int) (k : Int) (w : Int) : St := ⟨[(4,cA),(7,cO),(9,(i6 (bf op ws k w)))],[(.var 206 [(LI ws),(LI xs),(i6 k),(i6 w)]),dP,(.var 209 [(a5 op),(.fn (.func (dC op)) [] []),(.fn (.func (dD op)) [] [])])]⟩
def qA (op : Int) (ws : List Int) (xs : List Int) (k : Int) (w : Int) : St := ⟨[(4,cA),(7,cO),(9,(i6 (bf op ws k w))),(44,(.agg [(a5 op),(.fn (.func (dC op)) [] []),(.fn (.func (dD op)) [] [])]))],[(.var 206 [(LI ws),(LI xs),(i6 k),(i6 w)]),dP,(.var 209 [(a5 op),(.fn (.func (dC op)) [] []),(.fn (.func (dD op)) [] [])])]⟩
def qB (op : Int) (ws : List Int) (xs : List Int) (k : Int) (w : Int) : St := ⟨[(4,cA),(7,cO),(9,(i6 (bf op ws k w))),(45,(i6 (bf op ws k w)))],[(.var 206 [(LI ws),(LI xs),(i6 k),(i6 w)]),dP,(.var 209 [(a5 op),(.fn (.func (dC op)) [] []),(.fn (.func (dD op)) [] [])])]⟩
def qC (op : Int) (ws : List Int) (xs : List Int) (k : Int) (w : Int) : St := ⟨[(4,cA),(7,cO),(9,(i6 (bf op ws k w))),(46,(i6 (bf op ws k w)))],[(.var 206 [(LI ws),(LI xs),(i6 k),(i6 w)]),dP,(.var 209 [(a5 op),(.fn (.func (dC op)) [] []),(.fn (.func (dD op)) [] [])])]⟩
def kU (op : Int) (ws : List Int) (xs : List Int) (k : Int) (w : Int) : St := ⟨[(4,cA),(7,cO),(9,(i6 (bf op ws k w))),(44,(.agg [(a5 op),(.fn (.func (dC op)) [] []),(.fn (.func (dD op)) [] [])])),(45,(i6 (bf op ws k w)))],[(.var 206 [(LI ws),(LI xs),(i6 k),(i6 w)]),dP,(.var 209 [(a5 op),(.fn (.func (dC op)) [] []),(.fn (.func (dD op)) [] [])])]⟩
def kV (op : Int) (ws : List Int) (xs : List Int) (k : Int) (w : Int) : St := ⟨[(4,cA),(7,cO),(9,(i6 (bf op ws k w))),(44,(.agg [(a5 op),(.fn (.func (dC op)) [] []),(.fn (.func (dD op)) [] [])])),(46,(i6 (bf op ws k w)))],[(.var 206 [(LI ws),(LI xs),(i6 k),(i6 w)]),dP,(.var 209 [(a5 op),(.fn (.func (dC op)) [] []),(.fn (.func (dD op)) [] [])])]⟩
def kW (op : Int) (ws : List Int) (xs : List Int) (k : Int) (w : Int) : St := ⟨[(4,cA),(7,cO),(9,(i6 (bf op ws k w))),(45,(i6 (bf op ws k w))),(46,(i6 (bf op ws k w)))],[(.var 206 [(LI ws),(LI xs),(i6 k),(i6 w)]),dP,(.var 209 [(a5 op),(.fn (.func (dC op)) [] []),(.fn (.func (dD op)) [] [])])]⟩
def qD (op : Int) (ws : List Int) (xs : List Int) (k : Int) (w : Int) : St := ⟨[(4,cA),(7,cO),(9,(i6 (bf op ws k w))),(46,(i6 (bf op ws k w))),(47,(dB (an (bf op ws k w))))],[(.var 206 [(LI ws),(LI xs),(i6 k),(i6 w)]),dP,(.var 209 [(a5 op),(.fn (.func (dC op)) [] []),(.fn (.func (dD op)) [] [])])]⟩
def iK (op : Int) (ws : List Int) (xs : List Int) (k : Int) (w : Int) : St := ⟨[(4,cA),(7,cO),(9,(i6 (bf op ws k w))),(44,(.agg [(a5 op),(.fn (.func (dC op)) [] []),(.fn (.func (dD op)) [] [])])),(45,(i6 (bf op ws k w))),(46,(i6 (bf op ws k w)))],[(.var 206 [(LI ws),(LI xs),(i6 k),(i6 w)]),dP,(.var 209 [(a5 op),(.fn (.func (dC op)) [] []),(.fn (.func (dD op)) [] [])])]⟩
def kX (op : Int) (ws : List Int) (xs : List Int) (k : Int) (w : Int) : St := ⟨[(4,cA),(7,cO),(9,(i6 (bf op ws k w))),(44,(.agg [(a5 op),(.fn (.func (dC op)) [] []),(.fn (.func (dD op)) [] [])])),(46,(i6 (bf op ws k w))),(47,(dB (an (bf op ws k w))))],[(.var 206 [(LI ws),(LI xs),(i6 k),(i6 w)]),dP,(.var 209 [(a5 op),(.fn (.func (dC op)) [] []),(.fn (.func (dD op)) [] [])])]⟩
def jF (op : Int) (ws : List Int) (xs : List Int) (k : Int) (w : Int) : St := ⟨[(4,cA),(7,cO),(9,(i6 (bf op ws k w))),(45,(i6 (bf op ws k w))),(46,(i6 (bf op ws k w))),(47,(dB (an (bf op ws k w))))],[(.var 206 [(LI ws),(LI xs),(i6 k),(i6 w)]),dP,(.var 209 [(a5 op),(.fn (.func (dC op)) [] []),(.fn (.func (dD op)) [] [])])]⟩
def gC (op : Int) (ws : List Int) (xs : List Int) (k : Int) (w : Int) : St := ⟨[(4,cA),(7,cO),(9,(i6 (bf op ws k w))),(44,(.agg [(a5 op),(.fn (.func (dC op)) [] []),(.fn (.func (dD op)) [] [])])),(45,(i6 (bf op ws k w))),(46,(i6 (bf op ws k w))),(47,(dB (an (bf op ws k w))))],[(.var 206 [(LI ws),(LI xs),(i6 k),(i6 w)]),dP,(.var 209 [(a5 op),(.fn (.func (dC op)) [] []),(.fn (.func (dD op)) [] [])])]⟩
def ou (op : Int) (ws : List Int) (xs : List Int) (k : Int) (w : Int) : St := ⟨[(4,cA),(7,cO),(9,(i6 (bf op ws k w))),(44,(.agg [(a5 op),(.fn (.func (dC op)) [] []),(.fn (.func (dD op)) [] [])])),(46,(i6 (bf op ws k w))),(47,(dB (an (bf op ws k w))))],[(.var 206 [(LI ws),(LI xs),(i6 k),(i6 w)]),(.var 209 [(a5 op),(.fn (.func (dC op)) [] []),(.fn (.func (dD op)) [] [])]),(.var 209 [(a5 op),(.fn (.func (dC op)) [] []),(.fn (.func (dD op)) [] [])])]⟩
def jG (op : Int) (ws : List Int) (xs : List Int) (k : Int) (w : Int) : St := ⟨[(4,cA),(7,cO),(9,(i6 (bf op ws k w))),(44,(.agg [(a5 op),(.fn (.func (dC op)) [] []),(.fn (.func (dD op)) [] [])])),(45,(i6 (bf op ws k w))),(46,(i6 (bf op ws k w))),(47,(dB (an (bf op ws k w))))],[(.var 206 [(LI ws),(LI xs),(i6 k),(i6 w)]),(.var 209 [(a5 op),(.fn (.func (dC op)) [] []),(.fn (.func (dD op)) [] [])]),(.var 209 [(a5 op),(.fn (.func (dC op)) [] []),(.fn (.func (dD op)) [] [])])]⟩
def ow (op : Int) (ws : List Int) (xs : List Int) (k : Int) (w : Int) : St := ⟨[(4,cA),(5,(i6 (bf op ws k w))),(7,cO),(9,(i6 (bf op ws k w))),(44,(.agg [(a5 op),(.fn (.func (dC op)) [] []),(.fn (.func (dD op)) [] [])])),(45,(i6 (bf op ws k w))),(46,(i6 (bf op ws k w))),(47,(dB (an (bf op ws k w))))],[(.var 206 [(LI ws),(LI xs),(i6 k),(i6 w)]),(.var 209 [(a5 op),(.fn (.func (dC op)) [] []),(.fn (.func (dD op)) [] [])]),(.var 209 [(a5 op),(.fn (.func (dC op)) [] []),(.fn (.func (dD op)) [] [])])]⟩
def oz (op : Int) (ws : List Int) (xs : List Int) (k : Int) (w : Int) : St := ⟨[(4,cA),(5,(i6 (bf op ws k w))),(6,(dB (an (bf op ws k w))))],[(.var 206 [(LI ws),(LI xs),(i6 k),(i6 w)]),(.var 209 [(a5 op),(.fn (.func (dC op)) [] []),(.fn (.func (dD op)) [] [])]),(.var 209 [(a5 op),(.fn (.func (dC op)) [] []),(.fn (.func (dD op)) [] [])])]⟩
def jH (op : Int) (ws : List Int) (xs : List Int) (k : Int) (w : Int) : St := ⟨[(4,cA),(7,cO),(9,(i6 (bf op ws k w)))],[(.var 206 [(LI ws),(LI xs),(i6 k),(i6 w)]),dP,(.var 209 [(a5 op),(.fn (.func (dC op)) [] []),(.fn (.func (dD op)) [] [])])]⟩
def oA (op : Int) (ws : List Int) (xs : List Int) (k : Int) (w : Int) : St := ⟨[(4,cA),(7,cO),(9,(i6 (bf op ws k w))),(44,(.agg [(a5 op),(.fn (.func (dC op)) [] []),(.fn (.func (dD op)) [] [])]))],[(.var 206 [(LI ws),(LI xs),(i6 k),(i6 w)]),dP,(.var 209 [(a5 op),(.fn (.func (dC op)) [] []),(.fn (.func (dD op)) [] [])])]⟩
def oB (op : Int) (ws : List Int) (xs : List Int) (k : Int) (w : Int) : St := ⟨[(4,cA),(7,cO),(9,(i6 (bf op ws k w))),(45,(i6 (bf op ws k w)))],[(.var 206 [(LI ws),(LI xs),(i6 k),(i6 w)]),dP,(.var 209 [(a5 op),(.fn (.func (dC op)) [] []),(.fn (.func (dD op)) [] [])])]⟩
def oC (op : Int) (ws : List Int) (xs : List Int) (k : Int) (w : Int) : St := ⟨[(4,cA),(7,cO),(9,(i6 (bf op ws k w))),(46,(i6 (bf op ws k w)))],[(.var 206 [(LI ws),(LI xs),(i6 k),(i6 w)]),dP,(.var 209 [(a5 op),(.fn (.func (dC op)) [] []),(.fn (.func (dD op)) [] [])])]⟩
def jI (op : Int) (ws : List Int) (xs : List Int) (k : Int) (w : Int) : St := ⟨[(4,cA),(7,cO),(9,(i6 (bf op ws k w))),(44,(.agg [(a5 op),(.fn (.func (dC op)) [] []),(.fn (.func (dD op)) [] [])])),(45,(i6 (bf op ws k w)))],[(.var 206 [(LI ws),(LI xs),(i6 k),(i6 w)]),dP,(.var 209 [(a5 op),(.fn (.func (dC op)) [] []),(.fn (.func (dD op)) [] [])])]⟩
def jJ (op : Int) (ws : List Int) (xs : List Int) (k : Int) (w : Int) : St := ⟨[(4,cA),(7,cO),(9,(i6 (bf op ws k w))),(44,(.agg [(a5 op),(.fn (.func (dC op)) [] []),(.fn (.func (dD op)) [] [])])),(46,(i6 (bf op ws k w)))],[(.var 206 [(LI ws),(LI xs),(i6 k),(i6 w)]),dP,(.var 209 [(a5 op),(.fn (.func (dC op)) [] []),(.fn (.func (dD op)) [] [])])]⟩
def jK (op : Int) (ws : List Int) (xs : List Int) (k : Int) (w : Int) : St := ⟨[(4,cA),(7,cO),(9,(i6 (bf op ws k w))),(45,(i6 (bf op ws k w))),(46,(i6 (bf op ws k w)))],[(.var 206 [(LI ws),(LI xs),(i6 k),(i6 w)]),dP,(.var 209 [(a5 op),(.fn (.func (dC op)) [] []),(.fn (.func (dD op)) [] [])])]⟩
def oD (op : Int) (ws : List Int) (xs : List Int) (k : Int) (w : Int) : St := ⟨[(4,cA),(7,cO),(9,(i6 (bf op ws k w))),(46,(i6 (bf op ws k w))),(47,(dB (an (bf op ws k w))))],[(.var 206 [(LI ws),(LI xs),(i6 k),(i6 w)]),dP,(.var 209 [(a5 op),(.fn (.func (dC op)) [] []),(.fn (.func (dD op)) [] [])])]⟩
def gD (op : Int) (ws : List Int) (xs : List Int) (k : Int) (w : Int) : St := ⟨[(4,cA),(7,cO),(9,(i6 (bf op ws k w))),(44,(.agg [(a5 op),(.fn (.func (dC op)) [] []),(.fn (.func (dD op)) [] [])])),(45,(i6 (bf op ws k w))),(46,(i6 (bf op ws k w)))],[(.var 206 [(LI ws),(LI xs),(i6 k),(i6 w)]),dP,(.var 209 [(a5 op),(.fn (.func (dC op)) [] []),(.fn (.func (dD op)) [] [])])]⟩
def jL (op : Int) (ws : List Int) (xs : List Int) (k : Int) (w : Int) : St := ⟨[(4,cA),(7,cO),(9,(i6 (bf op ws k w))),(44,(.agg [(a5 op),(.fn (.func (dC op)) [] []),(.fn (.func (dD op)) [] [])])),(46,(i6 (bf op ws k w))),(47,(dB (an (bf op ws k w))))],[(.var 206 [(LI ws),(LI xs),(i6 k),(i6 w)]),dP,(.var 209 [(a5 op),(.fn (.func (dC op)) [] []),(.fn (.func (dD op)) [] [])])]⟩
def iY (op : Int) (ws : List Int) (xs : List Int) (k : Int) (w : Int) : St := ⟨[(4,cA),(7,cO),(9,(i6 (bf op ws k w))),(45,(i6 (bf op ws k w))),(46,(i6 (bf op ws k w))),(47,(dB (an (bf op ws k w))))],[(.var 206 [(LI ws),(LI xs),(i6 k),(i6 w)]),dP,(.var 209 [(a5 op),(.fn (.func (dC op)) [] []),(.fn (.func (dD op)) [] [])])]⟩
def fM (op : Int) (ws : List Int) (xs : List Int) (k : Int) (w : Int) : St := ⟨[(4,cA),(7,cO),(9,(i6 (bf op ws k w))),(44,(.agg [(a5 op),(.fn (.func (dC op)) [] []),(.fn (.func (dD op)) [] [])])),(45,(i6 (bf op ws k w))),(46,(i6 (bf op ws k w))),(47,(dB (an (bf op ws k w))))],[(.var 206 [(LI ws),(LI xs),(i6 k),(i6 w)]),dP,(.var 209 [(a5 op),(.fn (.func (dC op)) [] []),(.fn (.func (dD op)) [] [])])]⟩
def mM (op : Int) (ws : List Int) (xs : List Int) (k : Int) (w : Int) : St := ⟨[(4,cA),(7,cO),(9,(i6 (bf op ws k w))),(44,(.agg [(a5 op),(.fn (.func (dC op)) [] []),(.fn (.func (dD op)) [] [])])),(46,(i6 (bf op ws k w))),(47,(dB (an (bf op ws k w))))],[(.var 206 [(LI ws),(LI xs),(i6 k),(i6 w)]),(.var 209 [(a5 op),(.fn (.func (dC op)) [] []),(.fn (.func (dD op)) [] [])]),(.var 209 [(a5 op),(.fn (.func (dC op)) [] []),(.fn (.func (dD op)) [] [])])]⟩
def iZ (op : Int) (ws : List Int) (xs : List Int) (k : Int) (w : Int) : St := ⟨[(4,cA),(7,cO),(9,(i6 (bf op ws k w))),(44,(.agg [(a5 op),(.fn (.func (dC op)) [] []),(.fn (.func (dD op)) [] [])])),(45,(i6 (bf op ws k w))),(46,(i6 (bf op ws k w))),(47,(dB (an (bf op ws k w))))],[(.var 206 [(LI ws),(LI xs),(i6 k),(i6 w)]),(.var 209 [(a5 op),(.fn (.func (dC op)) [] []),(.fn (.func (dD op)) [] [])]),(.var 209 [(a5 op),(.fn (.func (dC op)) [] []),(.fn (.func (dD op)) [] [])])]⟩
def mN (op : Int) (ws : List Int) (xs : List Int) (k : Int) (w : Int) : St := ⟨[(4,cA),(5,(i6 (bf op ws k w))),(7,cO),(9,(i6 (bf op ws k w))),(44,(.agg [(a5 op),(.fn (.func (dC op)) [] []),(.fn (.func (dD op)) [] [])])),(45,(i6 (bf op ws k w))),(46,(i6 (bf op ws k w))),(47,(dB (an (bf op ws k w))))],[(.var 206 [(LI ws),(LI xs),(i6 k),(i6 w)]),(.var 209 [(a5 op),(.fn (.func (dC op)) [] []),(.fn (.func (dD op)) [] [])]),(.var 209 [(a5 op),(.fn (.func (dC op)) [] []),(.fn (.func (dD op)) [] [])])]⟩
def mO (op : Int) (ws : List Int) (xs : List Int) (k : Int) (w : Int) : St := ⟨[(4,cA),(5,(i6 (bf op ws k w))),(6,(dB (an (bf op ws k w))))],[(.var 206 [(LI ws),(LI xs),(i6 k),(i6 w)]),(.var 209 [(a5 op),(.fn (.func (dC op)) [] []),(.fn (.func (dD op)) [] [])]),(.var 209 [(a5 op),(.fn (.func (dC op)) [] []),(.fn (.func (dD op)) [] [])])]⟩
theorem tS (op : Int) (ws xs : List Int) (k w : Int) (hw : ws.length ≤ 9223372036854775807) (h : wM op ws = true) : CC (A8 op ws xs k w) := by
 obtain ⟨h1,h2⟩ := u6 h
 have hop := se h
 refine ai.vc (V := TT 4 (CS (op = 2 ∨ op = 3 ∨ op = 4 ∨ op = 5 ∨ op = 6 ∨ op = 7 ∨ op = 8 ∨ op = 9) (CC u9∧TT 1 ((∃ (j : Nat) (e : Int × Value),eC[j]? = some e∧op = e.1∧(∀ e' ∈ eC.take j,op ≠ e'.1)∧sY (D.ofVal e.2) (.agg [(a5 op),(.fn (.func (dC op)) [] []),(.fn (.func (dD op)) [] [])]))∧TT 18 ((True∧(!decide ((ws.length : Int) = (bi op))) = false)∧TT 2 (CC (EN ws)∧TT 1 ((!(ws.all an)) = false∧TT 3 (GC (cW op ws xs k w)∧TT 1 ((kT op ws xs k w) = (kT op ws xs k w)∧(((sE (qA op ws xs k w) (True))∧(sE (qB op ws xs k w) (True))∧(sE (qC op ws xs k w) (True))∧True)∧((sE (kU op ws xs k w) (True))∧(sE (kV op ws xs k w) (True))∧True)∧((sE (kU op ws xs k w) (True))∧(sE (kW op ws xs k w) (True))∧True)∧((sE (kV op ws xs k w) (True))∧(sE (kW op ws xs k w) (True))∧(sE (qD op ws xs k w) (CC (gf (bf op ws k w))))∧True)∧((sE (iK op ws xs k w) (True))∧True)∧((sE (iK op ws xs k w) (True))∧(sE (kX op ws xs k w) (CC (gf (bf op ws k w))))∧True)∧((sE (iK op ws xs k w) (True))∧(sE (jF op ws xs k w) (CC (gf (bf op ws k w))))∧True)∧((sE (kX op ws xs k w) (True))∧(sE (jF op ws xs k w) (True))∧True)∧((sE (gC op ws xs k w) (CC (gf (bf op ws k w))))∧True)∧((sE (gC op ws xs k w) (True))∧(sE (ou op ws xs k w) (True))∧True)∧((sE (gC op ws xs k w) (True))∧True)∧((sE (jG op ws xs k w) (True))∧True)∧((sE (jG op ws xs k w) (True))∧True)∧((sE (ow op ws xs k w) (True))∧True)∧((sE (oz op ws xs k w) (True))∧True)∧True∧True)∧TT 3 (((bi op) = (bi op)∧((.fn (.func (dC op)) [] []) : D) = (.fn (.func (dC op)) [] [])∧((.fn (.func (dD op)) [] []) : D) = (.fn (.func (dD op)) [] [])∧True)∧(bf op ws k w) = (bf op ws k w)∧(an (bf op ws k w)) = (an (bf op ws k w))∧True)))))))) (CC u9∧TT 1 ((∀ e' ∈ eC,op ≠ e'.1)∧TT 8 (CC yu∧TT 1 ((∃ (j : Nat) (e : Int × Value),fc[j]? = some e∧op = e.1∧(∀ e' ∈ fc.take j,op ≠ e'.1)∧sY (D.ofVal e.2) (.agg [(a5 op),(.fn (.func (dC op)) [] []),(.fn (.func (dD op)) [] [])]))∧TT 15 ((True∧(!decide ((ws.length : Int) = (bi op))) = false)∧TT 2 (CC (EN ws)∧TT 1 ((!(ws.all an)) = false∧TT 3 (GC (cW op ws xs k w)∧TT 1 ((jH op ws xs k w) = (jH op ws xs k w)∧(((sE (oA op ws xs k w) (True))∧(sE (oB op ws xs k w) (True))∧(sE (oC op ws xs k w) (True))∧True)∧((sE (jI op ws xs k w) (True))∧(sE (jJ op ws xs k w) (True))∧True)∧((sE (jI op ws xs k w) (True))∧(sE (jK op ws xs k w) (True))∧True)∧((sE (jJ op ws xs k w) (True))∧(sE (jK op ws xs k w) (True))∧(sE (oD op ws xs k w) (CC (gf (bf op ws k w))))∧True)∧((sE (gD op ws xs k w) (True))∧True)∧((sE (gD op ws xs k w) (True))∧(sE (jL op ws xs k w) (CC (gf (bf op ws k w))))∧True)∧((sE (gD op ws xs k w) (True))∧(sE (iY op ws xs k w) (CC (gf (bf op ws k w))))∧True)∧((sE (jL op ws xs k w) (True))∧(sE (iY op ws xs k w) (True))∧True)∧((sE (fM op ws xs k w) (CC (gf (bf op ws k w))))∧True)∧((sE (fM op ws xs k w) (True))∧(sE (mM op ws xs k w) (True))∧True)∧((sE (fM op ws xs k w) (True))∧True)∧((sE (iZ op ws xs k w) (True))∧True)∧((sE (iZ op ws xs k w) (True))∧True)∧((sE (mN op ws xs k w) (True))∧True)∧((sE (mO op ws xs k w) (True))∧True)∧True∧True)∧TT 3 (((bi op) = (bi op)∧((.fn (.func (dC op)) [] []) : D) = (.fn (.func (dC op)) [] [])∧((.fn (.func (dD op)) [] []) : D) = (.fn (.func (dD op)) [] [])∧True)∧(bf op ws k w) = (bf op ws k w)∧(an (bf op ws k w)) = (an (bf op ws k w))∧True)))))))))))) (.s 1 (op = 2 ∨ op = 3 ∨ op = 4 ∨ op = 5 ∨ op = 6 ∨ op = 7 ∨ op = 8 ∨ op = 9) (.w 1 [(0,u9.O),(2,.ent (.agg [(a5 op),(.fn (.func (dC op)) [] []),(.fn (.func (dD op)) [] [])]))] <| .w 4 [(10,.val (dB false)),(13,(EN ws).O)] <| .u 38 (.w 6 [(3,.callg none false (i6 (bf op ws k w)))] <| .y 7 [(3,(gf (bf op ws k w)).O)] [((bm 7 0),(kT op ws xs k w)),((bm 7 1),(qA op ws xs k w)),((bm 7 2),(qB op ws xs k w)),((bm 7 4),(qC op ws xs k w)),((bm 7 3),(kU op ws xs k w)),((bm 7 5),(kV op ws xs k w)),((bm 7 6),(kW op ws xs k w)),((bm 7 12),(qD op ws xs k w)),((bm 7 7),(iK op ws xs k w)),((bm 7 13),(kX op ws xs k w)),((bm 7 14),(jF op ws xs k w)),((bm 7 15),(gC op ws xs k w)),((bm 7 29),(ou op ws xs k w)),((bm 7 31),(jG op ws xs k w)),((bm 7 63),(ow op ws xs k w)),((bm 7 127),(oz op ws xs k w))] <| .e)) (.w 1 [(0,u9.O),(2,.idx none)] <| .w 3 [(0,yu.O),(2,.ent (.agg [(a5 op),(.fn (.func (dC op)) [] []),(.fn (.func (dD op)) [] [])]))] <| .w 4 [(10,.val (dB false)),(13,(EN ws).O)] <| .u 38 (.w 6 [(3,.callg none false (i6 (bf op ws k w)))] <| .y 7 [(3,(gf (bf op ws k w)).O)] [((bm 7 0),(jH op ws xs k w)),((bm 7 1),(oA op ws xs k w)),((bm 7 2),(oB op ws xs k w)),((bm 7 4),(oC op ws xs k w)),((bm 7 3),(jI op ws xs k w)),((bm 7 5),(jJ op ws xs k w)),((bm 7 6),(jK op ws xs k w)),((bm 7 12),(oD op ws xs k w)),((bm 7 7),(gD op ws xs k w)),((bm 7 13),(jL op ws xs k w)),((bm 7 14),(iY op ws xs k w)),((bm 7 15),(fM op ws xs k w)),((bm 7 29),(mM op ws xs k w)),((bm 7 31),(iZ op ws xs k w)),((bm 7 63),(mN op ws xs k w)),((bm 7 127),(mO op ws xs k w))] <| .e))) Tryz.func117 rfl rfl rfl (by kernel_rfl) ?_
 refine tt ⟨fun hs0 => ?_,fun hs0 => ?_⟩
 · have hS := hs0
   exact ⟨lJ,tt ⟨(sf hS),tt ⟨(nF h1),tt ⟨(iI ws hw),tt ⟨(rc h2),tt ⟨(FL op ws xs k w h),tt ⟨rfl,⟨⟨⟨⟨rfl,oK,oK⟩,⟨rfl,oK,oK⟩,⟨rfl,oK,oK⟩,oK⟩,⟨⟨rfl,oK,oK⟩,⟨rfl,oK,oK⟩,oK⟩,⟨⟨rfl,oK,oK⟩,⟨rfl,oK,oK⟩,oK⟩,⟨⟨rfl,oK,oK⟩,⟨rfl,oK,oK⟩,⟨rfl,(dn (bf op ws k w)),oK⟩,oK⟩,⟨⟨rfl,oK,oK⟩,oK⟩,⟨⟨rfl,oK,oK⟩,⟨rfl,(dn (bf op ws k w)),oK⟩,oK⟩,⟨⟨rfl,oK,oK⟩,⟨rfl,(dn (bf op ws k w)),oK⟩,oK⟩,⟨⟨rfl,oK,oK⟩,⟨rfl,oK,oK⟩,oK⟩,⟨⟨rfl,(dn (bf op ws k w)),oK⟩,oK⟩,⟨⟨rfl,oK,oK⟩,⟨rfl,oK,oK⟩,oK⟩,⟨⟨rfl,oK,oK⟩,oK⟩,⟨⟨rfl,oK,oK⟩,oK⟩,⟨⟨rfl,oK,oK⟩,oK⟩,⟨⟨rfl,oK,oK⟩,oK⟩,⟨⟨rfl,oK,oK⟩,oK⟩,oK,oK⟩,tt ⟨⟨rfl,rfl,rfl,oK⟩,rfl,rfl,oK⟩⟩⟩⟩⟩⟩⟩⟩⟩
 · have hS := hs0
   exact ⟨lJ,tt ⟨(sg hS),tt ⟨pZ,tt ⟨(si (by omega)),tt ⟨(nF h1),tt ⟨(iI ws hw),tt ⟨(rc h2),tt ⟨(FL op ws xs k w h),tt ⟨rfl,⟨⟨⟨⟨rfl,oK,oK⟩,⟨rfl,oK,oK⟩,⟨rfl,oK,oK⟩,oK⟩,⟨⟨rfl,oK,oK⟩,⟨rfl,oK,oK⟩,oK⟩,⟨⟨rfl,oK,oK⟩,⟨rfl,oK,oK⟩,oK⟩,⟨⟨rfl,oK,oK⟩,⟨rfl,oK,oK⟩,⟨rfl,(dn (bf op ws k w)),oK⟩,oK⟩,⟨⟨rfl,oK,oK⟩,oK⟩,⟨⟨rfl,oK,oK⟩,⟨rfl,(dn (bf op ws k w)),oK⟩,oK⟩,⟨⟨rfl,oK,oK⟩,⟨rfl,(dn (bf op ws k w)),oK⟩,oK⟩,⟨⟨rfl,oK,oK⟩,⟨rfl,oK,oK⟩,oK⟩,⟨⟨rfl,(dn (bf op ws k w)),oK⟩,oK⟩,⟨⟨rfl,oK,oK⟩,⟨rfl,oK,oK⟩,oK⟩,⟨⟨rfl,oK,oK⟩,oK⟩,⟨⟨rfl,oK,oK⟩,oK⟩,⟨⟨rfl,oK,oK⟩,oK⟩,⟨⟨rfl,oK,oK⟩,oK⟩,⟨⟨rfl,oK,oK⟩,oK⟩,oK,oK⟩,tt ⟨⟨rfl,rfl,rfl,oK⟩,rfl,rfl,oK⟩⟩⟩⟩⟩⟩⟩⟩⟩⟩⟩
abbrev A9 (op : Int) (ws xs : List Int) (k w : Int) : Ct := ⟨117,[(i6 op),(.agg [(LI ws),(LI xs),(i6 k),(i6 w)])],true,(.tup [(.agg [(i6 0),(.v .nilf),(.v .nilf)]),(i6 0),(dB false)])⟩
theorem tT (op : Int) (ws xs : List Int) (k w : Int) (hw : ws.length ≤ 9223372036854775807) (h : wM op ws = false) : CC (A9 op ws xs k w) := by
 refine ai.vc (V := TT 4 (CS (op = 2 ∨ op = 3 ∨ op = 4 ∨ op = 5 ∨ op = 6 ∨ op = 7 ∨ op = 8 ∨ op = 9) (CC u9∧TT 1 ((∃ (j : Nat) (e : Int × Value),eC[j]? = some e∧op = e.1∧(∀ e' ∈ eC.take j,op ≠ e'.1)∧sY (D.ofVal e.2) (.agg [(a5 op),(.fn (.func (dC op)) [] []),(.fn (.func (dD op)) [] [])]))∧TT 8 (CS ((ws.length : Int) = (bi op)) (TT 10 ((True∧(!decide ((ws.length : Int) = (bi op))) = false)∧TT 2 (CC (EN ws)∧TT 1 ((!(ws.all an)) = true∧TT 7 (((0 : Int) = 0∧True∧True∧True)∧(0 : Int) = 0∧false = false∧True))))) (TT 10 ((True∧(!decide ((ws.length : Int) = (bi op))) = true)∧TT 11 (((0 : Int) = 0∧True∧True∧True)∧(0 : Int) = 0∧false = false∧True)))))) (CC u9∧TT 1 ((∀ e' ∈ eC,op ≠ e'.1)∧TT 8 (CS (op = 1 ∨ op = 10 ∨ op = 11 ∨ op = 12 ∨ op = 13) (CC yu∧TT 1 ((∃ (j : Nat) (e : Int × Value),fc[j]? = some e∧op = e.1∧(∀ e' ∈ fc.take j,op ≠ e'.1)∧sY (D.ofVal e.2) (.agg [(a5 op),(.fn (.func (dC op)) [] []),(.fn (.func (dD op)) [] [])]))∧TT 5 (CS ((ws.length : Int) = (bi op)) (TT 10 ((True∧(!decide ((ws.length : Int) = (bi op))) = false)∧TT 2 (CC (EN ws)∧TT 1 ((!(ws.all an)) = true∧TT 7 (((0 : Int) = 0∧True∧True∧True)∧(0 : Int) = 0∧false = false∧True))))) (TT 10 ((True∧(!decide ((ws.length : Int) = (bi op))) = true)∧TT 11 (((0 : Int) = 0∧True∧True∧True)∧(0 : Int) = 0∧false = false∧True)))))) (CC yu∧TT 1 ((∀ e' ∈ fc,op ≠ e'.1)∧TT 27 (((0 : Int) = 0∧True∧True∧True)∧(0 : Int) = 0∧false = false∧True)))))))) (.s 1 (op = 2 ∨ op = 3 ∨ op = 4 ∨ op = 5 ∨ op = 6 ∨ op = 7 ∨ op = 8 ∨ op = 9) (.w 1 [(0,u9.O),(2,.ent (.agg [(a5 op),(.fn (.func (dC op)) [] []),(.fn (.func (dD op)) [] [])]))] <| .s 4 ((ws.length : Int) = (bi op)) (.w 4 [(10,.val (dB false)),(13,(EN ws).O)] <| .t 38 (.e)) (.w 4 [(10,.val (dB true))] <| .e)) (.w 1 [(0,u9.O),(2,.idx none)] <| .s 3 (op = 1 ∨ op = 10 ∨ op = 11 ∨ op = 12 ∨ op = 13) (.w 3 [(0,yu.O),(2,.ent (.agg [(a5 op),(.fn (.func (dC op)) [] []),(.fn (.func (dD op)) [] [])]))] <| .s 4 ((ws.length : Int) = (bi op)) (.w 4 [(10,.val (dB false)),(13,(EN ws).O)] <| .t 38 (.e)) (.w 4 [(10,.val (dB true))] <| .e)) (.w 3 [(0,yu.O),(2,.idx none)] <| .e))) Tryz.func117 rfl rfl rfl (by kernel_rfl) ?_
 refine tt ⟨fun hs0 => ?_,fun hs0 => ?_⟩
 · have hS := hs0
   refine ⟨lJ,tt ⟨(sf hS),tt ⟨fun hs1 => ?_,fun hs1 => ?_⟩⟩⟩
   · exact tt ⟨(nF hs1),tt ⟨(iI ws hw),tt ⟨(IK (by rcases CQ h with h5 | ⟨_,h5⟩; exact absurd (by assumption) h5; rw [h5]; simp)),tt ⟨⟨rfl,oK,oK,oK⟩,rfl,rfl,oK⟩⟩⟩⟩
   · exact tt ⟨(nT hs1),tt ⟨⟨rfl,oK,oK,oK⟩,rfl,rfl,oK⟩⟩
 · have hS := hs0
   refine ⟨lJ,tt ⟨(sg hS),tt ⟨fun hs2 => ?_,fun hs2 => ?_⟩⟩⟩
   · have hO := hs2
     refine ⟨pZ,tt ⟨(si hO),tt ⟨fun hs3 => ?_,fun hs3 => ?_⟩⟩⟩
     · exact tt ⟨(nF hs3),tt ⟨(iI ws hw),tt ⟨(IK (by rcases CQ h with h5 | ⟨_,h5⟩; exact absurd (by assumption) h5; rw [h5]; simp)),tt ⟨⟨rfl,oK,oK,oK⟩,rfl,rfl,oK⟩⟩⟩⟩
     · exact tt ⟨(nT hs3),tt ⟨⟨rfl,oK,oK,oK⟩,rfl,rfl,oK⟩⟩
   · have hO := hs2
     exact ⟨pZ,tt ⟨(yv hO),tt ⟨⟨rfl,oK,oK,oK⟩,rfl,rfl,oK⟩⟩⟩
theorem ng {op : Int} {ws : List Int} {k w : Int} (h : wM op ws = true) (h2 : an (bf op ws k w) = true) : fT op ws k w = true := by rw [yq,h,h2]; rfl
theorem cj {op : Int} {ws : List Int} {k w : Int} (h : ¬wM op ws = true) : fT op ws k w = false := by rw [yq,Bool.eq_false_iff.2 h]; rfl
theorem ck {op : Int} {ws : List Int} {k w : Int} (h2 : ¬an (bf op ws k w) = true) : fT op ws k w = false := by rw [yq,Bool.eq_false_iff.2 h2,Bool.and_false]
theorem kr {op : Int} {ws : List Int} {k w : Int} (h : fT op ws k w = false) : 0 = bS op ws k w∧1 = iW op ws k w := by unfold bS iW; rw [h]; exact ⟨rfl,rfl⟩
theorem p4 {op : Int} {ws : List Int} {k w : Int} (h : fT op ws k w = true) : bf op ws k w = bS op ws k w∧0 = iW op ws k w := by unfold bS iW; rw [h]; exact ⟨rfl,rfl⟩
abbrev Gh (op : Int) (ws : List Int) (k w : Int) : Ct := ⟨114,[(i6 op),(LI ws),(.agg [(i6 k),(i6 w)])],false,(.tup [(i6 (bS op ws k w)),(i6 (iW op ws k w))])⟩
theorem C2 (op : Int) (ws : List Int) (k w : Int) (hw : ws.length ≤ 9223372036854775807) : CC (Gh op ws k w) := by
 refine ai.vc (V := TT 3 (CS (wM op ws = true) (TT 2 (((0 ≤ (0 : Int)∧0 < (2 : Int))∧True)∧TT 1 (((0 ≤ (1 : Int)∧1 < (2 : Int))∧True)∧TT 2 ((v6 [] [(i6 op),(.agg [(LI ws),.nils,(i6 k),(i6 w)])] (A8 op ws [] k w).as∧CC (A8 op ws [] k w))∧TT 10 (CB (!(an (bf op ws k w))) (TT 4 (((0 : Int) = (bS op ws k w)∧(1 : Int) = (iW op ws k w)∧True)∧(True∧True∧True))) (TT 5 (((bf op ws k w) = (bS op ws k w)∧(0 : Int) = (iW op ws k w)∧True)∧(True∧True∧True)))))))) (TT 2 (((0 ≤ (0 : Int)∧0 < (2 : Int))∧True)∧TT 1 (((0 ≤ (1 : Int)∧1 < (2 : Int))∧True)∧TT 2 ((v6 [] [(i6 op),(.agg [(LI ws),.nils,(i6 k),(i6 w)])] (A9 op ws [] k w).as∧CC (A9 op ws [] k w))∧TT 14 (((0 : Int) = (bS op ws k w)∧(1 : Int) = (iW op ws k w)∧True)∧(True∧True∧True)))))))) (.s 1 (wM op ws = true) (.w 1 [(7,(A8 op ws [] k w).O')] <| .b 24 (.e) (.e)) (.w 1 [(7,(A9 op ws [] k w).O')] <| .e)) Tryz.func114 rfl rfl rfl (by kernel_rfl) ?_
 refine tt ⟨fun hs0 => ?_,fun hs0 => ?_⟩
 · have hb := hs0
   refine tt ⟨⟨by omega,oK⟩,tt ⟨⟨by omega,oK⟩,tt ⟨⟨⟨rfl,⟨rfl,rfl,rfl,rfl,oK⟩,oK⟩,(tS op ws [] k w hw hb)⟩,tt ⟨fun hc24 => ?_,fun hc24 => ?_⟩⟩⟩⟩
   · refine tt ⟨⟨?_,?_,oK⟩,⟨oK,oK,oK⟩⟩
     all_goals (first | exact (kr (cj hb)).1 | exact (kr (cj hb)).2 | exact (kr (ck (by simpa using hc24))).1 | exact (kr (ck (by simpa using hc24))).2 | exact (p4 (ng hb (by simpa using hc24))).1 | exact (p4 (ng hb (by simpa using hc24))).2)
   · refine tt ⟨⟨?_,?_,oK⟩,⟨oK,oK,oK⟩⟩
     all_goals (first | exact (kr (cj hb)).1 | exact (kr (cj hb)).2 | exact (kr (ck (by simpa using hc24))).1 | exact (kr (ck (by simpa using hc24))).2 | exact (p4 (ng hb (by simpa using hc24))).1 | exact (p4 (ng hb (by simpa using hc24))).2)
 · have hb := hs0
   refine tt ⟨⟨by omega,oK⟩,tt ⟨⟨by omega,oK⟩,tt ⟨⟨⟨rfl,⟨rfl,rfl,rfl,rfl,oK⟩,oK⟩,(tT op ws [] k w hw (Bool.eq_false_iff.2 hb))⟩,tt ⟨⟨?_,?_,oK⟩,⟨oK,oK,oK⟩⟩⟩⟩⟩
   all_goals (first | exact (kr (cj hb)).1 | exact (kr (cj hb)).2 | exact (kr (ck (by simpa using hc24))).1 | exact (kr (ck (by simpa using hc24))).2 | exact (p4 (ng hb (by simpa using hc24))).1 | exact (p4 (ng hb (by simpa using hc24))).2)
abbrev Gi (op : Int) (ws xs nums : List Int) : Ct := ⟨113,[(i6 op),(LI ws),(LI xs),(LI nums)],false,(.tup [(i6 (co op ws xs nums)),(i6 (ge op ws xs nums))])⟩
abbrev oE (op : Int) (ws : List Int) (xs : List Int) (nums : List Int) : Lp (Nat) := ga [1,10,11,44,45,46] 11 (fun (i : Nat) => ⟨[(1,(LI ws)),(10,(.ptr 9 0 0 0)),(11,(.ptr 10 0 0 0)),(44,(LI xs)),(45,(i6 (xs.length : Int))),(46,(i6 (i : Int)))],[.dead,.dead,.dead,.dead,.dead,.dead,.dead,.dead,.dead,(.var 206 [(LI ws),(LI xs),(i6 (nums.getD 0 0)),(i6 (nums.getD 1 0))]),(.var 209 [(a5 op),(.fn (.func (dC op)) [] []),(.fn (.func (dD op)) [] [])])]⟩) (fun (i : Nat) => i ≤ xs.length∧∀ j,j < i → 0 ≤ xs.getD j 0∧xs.getD j 0 ≤ ah (ws.getD j 0)) (fun (i : Nat) => xs.length - i)
theorem C3 (op : Int) (ws xs nums : List Int) (hwl : ws.length ≤ 9223372036854775807) (hxl0 : xs.length ≤ 9223372036854775807) : CC (Gi op ws xs nums) := by
 refine ai.vc (V := TT 2 (CS ((nums.length : Int) = 2) (TT 3 ((True∧(!decide ((nums.length : Int) = 2)) = false)∧TT 6 (CN ((xs.length : Int) = (ws.length : Int)) (TT 4 (((0 : Int) = (co op ws xs nums)∧(1 : Int) = (ge op ws xs nums)∧True)∧(True∧True∧True))) (TT 3 (IX 0 nums.length∧TT 2 (IX 1 nums.length∧TT 4 (CS (wM op ws = true) (TT 2 (CC (A8 op ws xs (nums.getD 0 0) (nums.getD 1 0))∧TT 10 (CB (!(an (bf op ws (nums.getD 0 0) (nums.getD 1 0)))) (TT 4 (((0 : Int) = (co op ws xs nums)∧(1 : Int) = (ge op ws xs nums)∧True)∧(True∧True∧True))) (TT 3 (GO (oE op ws xs nums) 0 (∀ i,(oE op ws xs nums).inv i → TT 1 (CD ((i : Int) < (xs.length : Int)) (TT 1 (IX (i : Int) xs.length∧TT 3 (CS ((xs.getD i 0) < 0) (TT 2 ((True∧(decide ((xs.getD i 0) < 0)) = true)∧TT 12 (((0 : Int) = (co op ws xs nums)∧(1 : Int) = (ge op ws xs nums)∧True)∧(True∧True∧True)))) (TT 2 ((True∧(decide ((xs.getD i 0) < 0)) = false)∧TT 3 (IX (i : Int) ws.length∧TT 1 (CC (CR (ws.getD i 0))∧TT 2 (CD ((xs.getD i 0) > (ah (ws.getD i 0))) (TT 4 (((0 : Int) = (co op ws xs nums)∧(1 : Int) = (ge op ws xs nums)∧True)∧(True∧True∧True))) (W6 ((i + 1 : Nat) : Int)∧TT 1 (AG (oE op ws xs nums) i (i + 1))))))))))) (TT 3 (GC (cV op ws xs (nums.getD 0 0) (nums.getD 1 0))∧TT 4 (((hJ op ws xs (nums.getD 0 0) (nums.getD 1 0)) = (co op ws xs nums)∧(0 : Int) = (ge op ws xs nums)∧True)∧(True∧True∧True))))))))))) (TT 2 (CC (A9 op ws xs (nums.getD 0 0) (nums.getD 1 0))∧TT 14 (((0 : Int) = (co op ws xs nums)∧(1 : Int) = (ge op ws xs nums)∧True)∧(True∧True∧True))))))))))) (TT 3 ((True∧(!decide ((nums.length : Int) = 2)) = true)∧TT 10 (((0 : Int) = (co op ws xs nums)∧(1 : Int) = (ge op ws xs nums)∧True)∧(True∧True∧True)))))) (.s 1 ((nums.length : Int) = 2) (.w 1 [(3,.val (dB false))] <| .b 25 (.e) (.s 4 (wM op ws = true) (.w 4 [(2,(A8 op ws xs (nums.getD 0 0) (nums.getD 1 0)).O)] <| .b 43 (.e) (.l (oE op ws xs nums) 0 (fun i => .b 47 (.s 10 ((xs.getD i 0) < 0) (.w 10 [(2,.val (dB true))] <| .e) (.w 10 [(2,.val (dB false)),(8,(CR (ws.getD i 0)).O)] <| .b 61 (.e) (.w 12 [(0,.val (i6 ((i + 1 : Nat) : Int)))] <| .e))) (.w 13 [(3,.callg none false (i6 (hJ op ws xs (nums.getD 0 0) (nums.getD 1 0))))] <| .e)))) (.w 4 [(2,(A9 op ws xs (nums.getD 0 0) (nums.getD 1 0)).O)] <| .e))) (.w 1 [(3,.val (dB true))] <| .e)) Tryz.func113 rfl rfl rfl (by kernel_rfl) ?_
 refine tt ⟨fun hs0 => ?_,fun hs0 => ?_⟩
 · refine tt ⟨(nF hs0),tt (cn (fun hc25 => ?_) (fun hc25 => ?_))⟩
   · refine tt ⟨⟨?_,?_,oK⟩,⟨oK,oK,oK⟩⟩
     all_goals (first | exact (a4 (oi (by omega))).1.symm | exact (a4 (oi (by omega))).2.symm | exact (a4 (oo (by omega))).1.symm | exact (a4 (oo (by omega))).2.symm | exact (a4 (b7 (cj hb))).1.symm | exact (a4 (b7 (cj hb))).2.symm | exact (a4 (b7 (ck (by simpa using hc43)))).1.symm | exact (a4 (b7 (ck (by simpa using hc43)))).2.symm | exact (a4 (iH (i := i) (by omega) (by omega))).1.symm | exact (a4 (iH (i := i) (by omega) (by omega))).2.symm | exact (db hl2 hxl hok hin).1.symm | exact (db hl2 hxl hok hin).2.symm)
   · refine tt ⟨ix,tt ⟨ix,tt ⟨fun hs1 => ?_,fun hs1 => ?_⟩⟩⟩
     · have hb := hs1
       refine tt ⟨(tS op ws xs (nums.getD 0 0) (nums.getD 1 0) hwl hb),tt ⟨fun hc43 => ?_,fun hc43 => ?_⟩⟩
       · refine tt ⟨⟨?_,?_,oK⟩,⟨oK,oK,oK⟩⟩
         all_goals (first | exact (a4 (oi (by omega))).1.symm | exact (a4 (oi (by omega))).2.symm | exact (a4 (oo (by omega))).1.symm | exact (a4 (oo (by omega))).2.symm | exact (a4 (b7 (cj hb))).1.symm | exact (a4 (b7 (cj hb))).2.symm | exact (a4 (b7 (ck (by simpa using hc43)))).1.symm | exact (a4 (b7 (ck (by simpa using hc43)))).2.symm | exact (a4 (iH (i := i) (by omega) (by omega))).1.symm | exact (a4 (iH (i := i) (by omega) (by omega))).2.symm | exact (db hl2 hxl hok hin).1.symm | exact (db hl2 hxl hok hin).2.symm)
       · refine tt ?_
         have hok := ng hb (by simpa using hc43)
         have hl2 : nums.length = 2 := by omega
         have hxl : xs.length = ws.length := by omega
         refine ⟨rfl,⟨by omega,fun j hj => by omega⟩,?_⟩
         intro i hinv
         obtain ⟨hi,hall⟩ := hinv
         refine tt (cd (fun hc47 => ?_) (fun hc47 => ?_))
         · refine tt ⟨ix,tt ⟨fun hs2 => ?_,fun hs2 => ?_⟩⟩
           · refine tt ⟨(vT hs2),tt ⟨⟨?_,?_,oK⟩,⟨oK,oK,oK⟩⟩⟩
             all_goals (first | exact (a4 (oi (by omega))).1.symm | exact (a4 (oi (by omega))).2.symm | exact (a4 (oo (by omega))).1.symm | exact (a4 (oo (by omega))).2.symm | exact (a4 (b7 (cj hb))).1.symm | exact (a4 (b7 (cj hb))).2.symm | exact (a4 (b7 (ck (by simpa using hc43)))).1.symm | exact (a4 (b7 (ck (by simpa using hc43)))).2.symm | exact (a4 (iH (i := i) (by omega) (by omega))).1.symm | exact (a4 (iH (i := i) (by omega) (by omega))).2.symm | exact (db hl2 hxl hok hin).1.symm | exact (db hl2 hxl hok hin).2.symm)
           · refine tt ⟨(vF hs2),tt ⟨ix,tt ⟨(oq (ws.getD i 0)),tt (cd (fun hc61 => ?_) (fun hc61 => ?_))⟩⟩⟩
             · refine tt ⟨⟨?_,?_,oK⟩,⟨oK,oK,oK⟩⟩
               all_goals (first | exact (a4 (oi (by omega))).1.symm | exact (a4 (oi (by omega))).2.symm | exact (a4 (oo (by omega))).1.symm | exact (a4 (oo (by omega))).2.symm | exact (a4 (b7 (cj hb))).1.symm | exact (a4 (b7 (cj hb))).2.symm | exact (a4 (b7 (ck (by simpa using hc43)))).1.symm | exact (a4 (b7 (ck (by simpa using hc43)))).2.symm | exact (a4 (iH (i := i) (by omega) (by omega))).1.symm | exact (a4 (iH (i := i) (by omega) (by omega))).2.symm | exact (db hl2 hxl hok hin).1.symm | exact (db hl2 hxl hok hin).2.symm)
             · refine ⟨w6,tt ⟨(i + 1),rfl,?_,(?_ : xs.length - (i + 1) < xs.length - i)⟩⟩
               · exact ⟨by omega,bU hall ⟨by omega,by omega⟩⟩
               · omega
         · have hin : wK ws xs = true := CP (fun j hj => hall j (by omega))
           refine tt ⟨(HB op ws xs _ _ hok hxl hin),tt ⟨⟨?_,?_,oK⟩,⟨oK,oK,oK⟩⟩⟩
           all_goals (first | exact (a4 (oi (by omega))).1.symm | exact (a4 (oi (by omega))).2.symm | exact (a4 (oo (by omega))).1.symm | exact (a4 (oo (by omega))).2.symm | exact (a4 (b7 (cj hb))).1.symm | exact (a4 (b7 (cj hb))).2.symm | exact (a4 (b7 (ck (by simpa using hc43)))).1.symm | exact (a4 (b7 (ck (by simpa using hc43)))).2.symm | exact (a4 (iH (i := i) (by omega) (by omega))).1.symm | exact (a4 (iH (i := i) (by omega) (by omega))).2.symm | exact (db hl2 hxl hok hin).1.symm | exact (db hl2 hxl hok hin).2.symm)
     · have hb := hs1
       refine tt ⟨(tT op ws xs (nums.getD 0 0) (nums.getD 1 0) hwl (Bool.eq_false_iff.2 hb)),tt ⟨⟨?_,?_,oK⟩,⟨oK,oK,oK⟩⟩⟩
       all_goals (first | exact (a4 (oi (by omega))).1.symm | exact (a4 (oi (by omega))).2.symm | exact (a4 (oo (by omega))).1.symm | exact (a4 (oo (by omega))).2.symm | exact (a4 (b7 (cj hb))).1.symm | exact (a4 (b7 (cj hb))).2.symm | exact (a4 (b7 (ck (by simpa using hc43)))).1.symm | exact (a4 (b7 (ck (by simpa using hc43)))).2.symm | exact (a4 (iH (i := i) (by omega) (by omega))).1.symm | exact (a4 (iH (i := i) (by omega) (by omega))).2.symm | exact (db hl2 hxl hok hin).1.symm | exact (db hl2 hxl hok hin).2.symm)
 · refine tt ⟨(nT hs0),tt ⟨⟨?_,?_,oK⟩,⟨oK,oK,oK⟩⟩⟩
   all_goals (first | exact (a4 (oi (by omega))).1.symm | exact (a4 (oi (by omega))).2.symm | exact (a4 (oo (by omega))).1.symm | exact (a4 (oo (by omega))).2.symm | exact (a4 (b7 (cj hb))).1.symm | exact (a4 (b7 (cj hb))).2.symm | exact (a4 (b7 (ck (by simpa using hc43)))).1.symm | exact (a4 (b7 (ck (by simpa using hc43)))).2.symm | exact (a4 (iH (i := i) (by omega) (by omega))).1.symm | exact (a4 (iH (i := i) (by omega) (by omega))).2.symm | exact (db hl2 hxl hok hin).1.symm | exact (db hl2 hxl hok hin).2.symm)
end Go.Proofs.YtifoecfajmnjjaaGreat
