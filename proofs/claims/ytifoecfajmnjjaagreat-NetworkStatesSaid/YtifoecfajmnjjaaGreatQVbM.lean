/-
  Package bits: the tables of operators; Width, Apply.
-/
import Derived.Test.YtifoecfajmnjjaaGreatQVbB
import Derived.Test.YtifoecfajmnjjaaGreatQMap
namespace Go.Proofs.YtifoecfajmnjjaaGreat
open Go.RowKit
set_option linter.unusedVariables false
set_option linter.unusedSimpArgs false
abbrev dV : aH := (.var 209 [(i6 0),(.v .nilf),(.v .nilf)])
abbrev a9 (op : Int) : D := (i6 (bn op))
abbrev cI : D := (.ptr 1 0 0 0)
abbrev cR : D := (.ptr 2 0 0 0)
set_option maxRecDepth 100000
def eT : List (Int × Value) := [(2,.agg #[.int .i64 1,.func (.func 122) #[] #[],.func (.func 123) #[] #[]]),(3,.agg #[.int .i64 2,.func (.func 125) #[] #[],.func (.func 126) #[] #[]]),(4,.agg #[.int .i64 2,.func (.func 125) #[] #[],.func (.func 127) #[] #[]]),(5,.agg #[.int .i64 2,.func (.func 125) #[] #[],.func (.func 128) #[] #[]]),(6,.agg #[.int .i64 2,.func (.func 125) #[] #[],.func (.func 129) #[] #[]]),(7,.agg #[.int .i64 2,.func (.func 125) #[] #[],.func (.func 130) #[] #[]]),(8,.agg #[.int .i64 2,.func (.func 131) #[] #[],.func (.func 132) #[] #[]]),(9,.agg #[.int .i64 2,.func (.func 131) #[] #[],.func (.func 134) #[] #[]])]
set_option maxHeartbeats 800000 in
theorem vu (w : World) : Calls Tryz.prog 118 #[] w (fun e w' => ∃ arr : Array MapEntry,e = .returned (.map (some w.heap.size))∧w' = w.alloc (.map arr 8)∧arr.toList.map (fun e => (e.key,e.val)) = eT.map (fun e => (Value.int .i64 e.1,e.2))) := by
  go_enter Tryz.func118,Tryz.ntmps118
  go_wp2_with (first | (rw [qR]) | (rw [sw Tryz.underlying213 Tryz.underlying3 (by rfl)]))
  go_ret
  exact ⟨_,rfl,rfl,rfl⟩
abbrev vw : Ct := ⟨118,[],false,.v (.mp eT)⟩
theorem l6 : CC vw := ak.of_map vu
def fy : List (Int × Value) := [(1,.agg #[.int .i64 0,.func (.func 135) #[] #[],.func (.func 136) #[] #[]]),(10,.agg #[.int .i64 3,.func (.func 137) #[] #[],.func (.func 138) #[] #[]]),(11,.agg #[.int .i64 2,.func (.func 139) #[] #[],.func (.func 140) #[] #[]]),(12,.agg #[.int .i64 1,.func (.func 141) #[] #[],.func (.func 142) #[] #[]]),(13,.agg #[.int .i64 1,.func (.func 143) #[] #[],.func (.func 144) #[] #[]])]
set_option maxHeartbeats 800000 in
theorem vx (w : World) : Calls Tryz.prog 119 #[] w (fun e w' => ∃ arr : Array MapEntry,e = .returned (.map (some w.heap.size))∧w' = w.alloc (.map arr 5)∧arr.toList.map (fun e => (e.key,e.val)) = fy.map (fun e => (Value.int .i64 e.1,e.2))) := by
  go_enter Tryz.func119,Tryz.ntmps119
  go_wp2_with (first | (rw [qR]) | (rw [sw Tryz.underlying213 Tryz.underlying3 (by rfl)]))
  go_ret
  exact ⟨_,rfl,rfl,rfl⟩
abbrev yA : Ct := ⟨119,[],false,.v (.mp fy)⟩
theorem qr : CC yA := ak.of_map vx
def dM (op : Int) : Nat :=
  if op = 1 then 135 else
  if op = 2 then 122 else
  if op = 3 then 125 else
  if op = 4 then 125 else
  if op = 5 then 125 else
  if op = 6 then 125 else
  if op = 7 then 125 else
  if op = 8 then 131 else
  if op = 9 then 131 else
  if op = 10 then 137 else
  if op = 11 then 139 else
  if op = 12 then 141 else
  if op = 13 then 143 else 0
def dP (op : Int) : Nat :=
  if op = 1 then 136 else
  if op = 2 then 123 else
  if op = 3 then 126 else
  if op = 4 then 127 else
  if op = 5 then 128 else
  if op = 6 then 129 else
  if op = 7 then 130 else
  if op = 8 then 132 else
  if op = 9 then 134 else
  if op = 10 then 138 else
  if op = 11 then 140 else
  if op = 12 then 142 else
  if op = 13 then 144 else 0
abbrev cW (op : Int) (ws xs : List Int) (k w : Int) : Ct := ⟨dM op,[(.agg [(LI ws),(LI xs),(i6 k),(i6 w)])],false,i6 (bi op ws k w)⟩
abbrev cV (op : Int) (ws xs : List Int) (k w : Int) : Ct := ⟨dP op,[(.agg [(LI ws),(LI xs),(i6 k),(i6 w)])],false,i6 (ip op ws xs k w)⟩
theorem sy {op : Int} {ws : List Int} (h : wV op ws = true) : op = 1 ∨ op = 2 ∨ op = 3 ∨ op = 4 ∨ op = 5 ∨ op = 6 ∨ op = 7 ∨ op = 8 ∨ op = 9 ∨ op = 10 ∨ op = 11 ∨ op = 12 ∨ op = 13 := by
  have h1 := (vt h).1
  by_cases hr : op < 1 ∨ 13 < op
  · have : bn op = -1 := by unfold bn; rw [if_neg (by omega),if_neg (by omega),if_neg (by omega),if_neg (by omega)]
    omega
  · omega
theorem FL (op : Int) (ws xs : List Int) (k w : Int) (h : wV op ws = true) : GC (cW op ws xs k w) := by
  obtain ⟨h1,hf⟩ := vt h
  rcases sy h with rfl | rfl | rfl | rfl | rfl | rfl | rfl | rfl | rfl | rfl | rfl | rfl | rfl
  · (have hl : (ws.length : Int) = 0 := h1); exact ⟨by kernel_rfl,Bc ws xs k w (by omega) hf⟩
  · (have hl : (ws.length : Int) = 1 := h1); exact ⟨by kernel_rfl,CX ws xs k w (by omega) hf⟩
  · (have hl : (ws.length : Int) = 2 := h1); exact ⟨by kernel_rfl,jw ws xs k w (by omega) hf⟩
  · (have hl : (ws.length : Int) = 2 := h1); exact ⟨by kernel_rfl,jw ws xs k w (by omega) hf⟩
  · (have hl : (ws.length : Int) = 2 := h1); exact ⟨by kernel_rfl,jw ws xs k w (by omega) hf⟩
  · (have hl : (ws.length : Int) = 2 := h1); exact ⟨by kernel_rfl,jw ws xs k w (by omega) hf⟩
  · (have hl : (ws.length : Int) = 2 := h1); exact ⟨by kernel_rfl,jw ws xs k w (by omega) hf⟩
  · (have hl : (ws.length : Int) = 2 := h1); exact ⟨by kernel_rfl,CY ws xs k w (by omega) hf⟩
  · (have hl : (ws.length : Int) = 2 := h1); exact ⟨by kernel_rfl,CY ws xs k w (by omega) hf⟩
  · (have hl : (ws.length : Int) = 3 := h1); exact ⟨by kernel_rfl,ET ws xs k w (by omega) hf⟩
  · (have hl : (ws.length : Int) = 2 := h1); exact ⟨by kernel_rfl,EU ws xs k w (by omega) hf⟩
  · (have hl : (ws.length : Int) = 1 := h1); exact ⟨by kernel_rfl,Bd ws xs k w (by omega) hf⟩
  · (have hl : (ws.length : Int) = 1 := h1); exact ⟨by kernel_rfl,EV ws xs k w (by omega) hf⟩
theorem Hz (op : Int) (ws xs : List Int) (k w : Int) (h : gj op ws k w = true) (hx : xs.length = ws.length) (hin : wT ws xs = true) : GC (cV op ws xs k w) := by
  obtain ⟨h1,hf,h3⟩ := jg h
  have hb : wV op ws = true := by unfold wV; rw [decide_eq_true h1,hf]; rfl
  rcases sy hb with rfl | rfl | rfl | rfl | rfl | rfl | rfl | rfl | rfl | rfl | rfl | rfl | rfl
  · (have hl : (ws.length : Int) = 0 := h1); exact ⟨by kernel_rfl,CZ ws xs k w ⟨by omega,hf,hx,hin⟩⟩
  · (have hl : (ws.length : Int) = 1 := h1); exact ⟨by kernel_rfl,Ga ws xs k w ⟨by omega,hf,hx,hin⟩⟩
  · (have hl : (ws.length : Int) = 2 := h1); exact ⟨by kernel_rfl,Gb ws xs k w ⟨by omega,hf,hx,hin⟩⟩
  · (have hl : (ws.length : Int) = 2 := h1); exact ⟨by kernel_rfl,Hw ws xs k w ⟨by omega,hf,hx,hin⟩⟩
  · (have hl : (ws.length : Int) = 2 := h1); exact ⟨by kernel_rfl,Gc ws xs k w ⟨by omega,hf,hx,hin⟩⟩
  · (have hl : (ws.length : Int) = 2 := h1); exact ⟨by kernel_rfl,Gd ws xs k w ⟨by omega,hf,hx,hin⟩⟩
  · (have hl : (ws.length : Int) = 2 := h1); exact ⟨by kernel_rfl,Ge ws xs k w ⟨by omega,hf,hx,hin⟩⟩
  · (have hl : (ws.length : Int) = 2 := h1); exact ⟨by kernel_rfl,Hx ws xs k w ⟨by omega,hf,hx,hin⟩⟩
  · (have hl : (ws.length : Int) = 2 := h1); exact ⟨by kernel_rfl,Hy ws xs k w ⟨by omega,hf,hx,hin⟩⟩
  · (have hl : (ws.length : Int) = 3 := h1); exact ⟨by kernel_rfl,Gg ws xs k w ⟨by omega,hf,hx,hin⟩ (vp h)⟩
  · (have hl : (ws.length : Int) = 2 := h1); exact ⟨by kernel_rfl,Gh ws xs k w ⟨by omega,hf,hx,hin⟩⟩
  · (have hl : (ws.length : Int) = 1 := h1); exact ⟨by kernel_rfl,C0 ws xs k w ⟨by omega,hf,hx,hin⟩ (vq h)⟩
  · (have hl : (ws.length : Int) = 1 := h1); exact ⟨by kernel_rfl,Gf ws xs k w ⟨by omega,hf,hx,hin⟩⟩
theorem sA {op : Int} (h : op = 2 ∨ op = 3 ∨ op = 4 ∨ op = 5 ∨ op = 6 ∨ op = 7 ∨ op = 8 ∨ op = 9) : ∃ (j : Nat) (e : Int × Value),eT[j]? = some e∧op = e.1∧(∀ e' ∈ eT.take j,op ≠ e'.1)∧tj (D.ofVal e.2) (.agg [(a9 op),(.fn (.func (dM op)) [] []),(.fn (.func (dP op)) [] [])]) := by
  rcases h with rfl | rfl | rfl | rfl | rfl | rfl | rfl | rfl
  · exact ⟨0,_,rfl,rfl,by decide,⟨rfl,rfl,rfl,oK⟩⟩
  · exact ⟨1,_,rfl,rfl,by decide,⟨rfl,rfl,rfl,oK⟩⟩
  · exact ⟨2,_,rfl,rfl,by decide,⟨rfl,rfl,rfl,oK⟩⟩
  · exact ⟨3,_,rfl,rfl,by decide,⟨rfl,rfl,rfl,oK⟩⟩
  · exact ⟨4,_,rfl,rfl,by decide,⟨rfl,rfl,rfl,oK⟩⟩
  · exact ⟨5,_,rfl,rfl,by decide,⟨rfl,rfl,rfl,oK⟩⟩
  · exact ⟨6,_,rfl,rfl,by decide,⟨rfl,rfl,rfl,oK⟩⟩
  · exact ⟨7,_,rfl,rfl,by decide,⟨rfl,rfl,rfl,oK⟩⟩
theorem sB {op : Int} (h : ¬(op = 2 ∨ op = 3 ∨ op = 4 ∨ op = 5 ∨ op = 6 ∨ op = 7 ∨ op = 8 ∨ op = 9)) : ∀ e' ∈ eT,op ≠ e'.1 := by
  intro e' he'
  simp only [eT,List.mem_cons,List.not_mem_nil,or_false] at he'
  rcases he' with rfl | rfl | rfl | rfl | rfl | rfl | rfl | rfl <;> simp only [ne_eq] <;> omega
theorem sC {op : Int} (h : op = 1 ∨ op = 10 ∨ op = 11 ∨ op = 12 ∨ op = 13) : ∃ (j : Nat) (e : Int × Value),fy[j]? = some e∧op = e.1∧(∀ e' ∈ fy.take j,op ≠ e'.1)∧tj (D.ofVal e.2) (.agg [(a9 op),(.fn (.func (dM op)) [] []),(.fn (.func (dP op)) [] [])]) := by
  rcases h with rfl | rfl | rfl | rfl | rfl
  · exact ⟨0,_,rfl,rfl,by decide,⟨rfl,rfl,rfl,oK⟩⟩
  · exact ⟨1,_,rfl,rfl,by decide,⟨rfl,rfl,rfl,oK⟩⟩
  · exact ⟨2,_,rfl,rfl,by decide,⟨rfl,rfl,rfl,oK⟩⟩
  · exact ⟨3,_,rfl,rfl,by decide,⟨rfl,rfl,rfl,oK⟩⟩
  · exact ⟨4,_,rfl,rfl,by decide,⟨rfl,rfl,rfl,oK⟩⟩
theorem yB {op : Int} (h : ¬(op = 1 ∨ op = 10 ∨ op = 11 ∨ op = 12 ∨ op = 13)) : ∀ e' ∈ fy,op ≠ e'.1 := by
  intro e' he'
  simp only [fy,List.mem_cons,List.not_mem_nil,or_false] at he'
  rcases he' with rfl | rfl | rfl | rfl | rfl <;> simp only [ne_eq] <;> omega
abbrev Bf (op : Int) (ws xs : List Int) (k w : Int) : Ct := ⟨117,[(i6 op),(.agg [(LI ws),(LI xs),(i6 k),(i6 w)])],true,(.tup [(.agg [(a9 op),(.fn (.func (dM op)) [] []),(.fn (.func (dP op)) [] [])]),(i6 (bi op ws k w)),(dB (ax (bi op ws k w)))])⟩
def lk (op : Int) (ws : List Int) (xs : List Int) (k : Int) (w : Int) : St := ⟨[(4,cI),(7,cR),(9,(i6 (bi op ws k w)))],[(.var 206 [(LI ws),(LI xs),(i6 k),(i6 w)]),dV,(.var 209 [(a9 op),(.fn (.func (dM op)) [] []),(.fn (.func (dP op)) [] [])])]⟩
def qS (op : Int) (ws : List Int) (xs : List Int) (k : Int) (w : Int) : St := ⟨[(4,cI),(7,cR),(9,(i6 (bi op ws k w))),(44,(.agg [(a9 op),(.fn (.func (dM op)) [] []),(.fn (.func (dP op)) [] [])]))],[(.var 206 [(LI ws),(LI xs),(i6 k),(i6 w)]),dV,(.var 209 [(a9 op),(.fn (.func (dM op)) [] []),(.fn (.func (dP op)) [] [])])]⟩
def qT (op : Int) (ws : List Int) (xs : List Int) (k : Int) (w : Int) : St := ⟨[(4,cI),(7,cR),(9,(i6 (bi op ws k w))),(45,(i6 (bi op ws k w)))],[(.var 206 [(LI ws),(LI xs),(i6 k),(i6 w)]),dV,(.var 209 [(a9 op),(.fn (.func (dM op)) [] []),(.fn (.func (dP op)) [] [])])]⟩
def qU (op : Int) (ws : List Int) (xs : List Int) (k : Int) (w : Int) : St := ⟨[(4,cI),(7,cR),(9,(i6 (bi op ws k w))),(46,(i6 (bi op ws k w)))],[(.var 206 [(LI ws),(LI xs),(i6 k),(i6 w)]),dV,(.var 209 [(a9 op),(.fn (.func (dM op)) [] []),(.fn (.func (dP op)) [] [])])]⟩
def ll (op : Int) (ws : List Int) (xs : List Int) (k : Int) (w : Int) : St := ⟨[(4,cI),(7,cR),(9,(i6 (bi op ws k w))),(44,(.agg [(a9 op),(.fn (.func (dM op)) [] []),(.fn (.func (dP op)) [] [])])),(45,(i6 (bi op ws k w)))],[(.var 206 [(LI ws),(LI xs),(i6 k),(i6 w)]),dV,(.var 209 [(a9 op),(.fn (.func (dM op)) [] []),(.fn (.func (dP op)) [] [])])]⟩
def lm (op : Int) (ws : List Int) (xs : List Int) (k : Int) (w : Int) : St := ⟨[(4,cI),(7,cR),(9,(i6 (bi op ws k w))),(44,(.agg [(a9 op),(.fn (.func (dM op)) [] []),(.fn (.func (dP op)) [] [])])),(46,(i6 (bi op ws k w)))],[(.var 206 [(LI ws),(LI xs),(i6 k),(i6 w)]),dV,(.var 209 [(a9 op),(.fn (.func (dM op)) [] []),(.fn (.func (dP op)) [] [])])]⟩
def ln (op : Int) (ws : List Int) (xs : List Int) (k : Int) (w : Int) : St := ⟨[(4,cI),(7,cR),(9,(i6 (bi op ws k w))),(45,(i6 (bi op ws k w))),(46,(i6 (bi op ws k w)))],[(.var 206 [(LI ws),(LI xs),(i6 k),(i6 w)]),dV,(.var 209 [(a9 op),(.fn (.func (dM op)) [] []),(.fn (.func (dP op)) [] [])])]⟩
def qV (op : Int) (ws : List Int) (xs : List Int) (k : Int) (w : Int) : St := ⟨[(4,cI),(7,cR),(9,(i6 (bi op ws k w))),(46,(i6 (bi op ws k w))),(47,(dB (ax (bi op ws k w))))],[(.var 206 [(LI ws),(LI xs),(i6 k),(i6 w)]),dV,(.var 209 [(a9 op),(.fn (.func (dM op)) [] []),(.fn (.func (dP op)) [] [])])]⟩
def i2 (op : Int) (ws : List Int) (xs : List Int) (k : Int) (w : Int) : St := ⟨[(4,cI),(7,cR),(9,(i6 (bi op ws k w))),(44,(.agg [(a9 op),(.fn (.func (dM op)) [] []),(.fn (.func (dP op)) [] [])])),(45,(i6 (bi op ws k w))),(46,(i6 (bi op ws k w)))],[(.var 206 [(LI ws),(LI xs),(i6 k),(i6 w)]),dV,(.var 209 [(a9 op),(.fn (.func (dM op)) [] []),(.fn (.func (dP op)) [] [])])]⟩
def lq (op : Int) (ws : List Int) (xs : List Int) (k : Int) (w : Int) : St := ⟨[(4,cI),(7,cR),(9,(i6 (bi op ws k w))),(44,(.agg [(a9 op),(.fn (.func (dM op)) [] []),(.fn (.func (dP op)) [] [])])),(46,(i6 (bi op ws k w))),(47,(dB (ax (bi op ws k w))))],[(.var 206 [(LI ws),(LI xs),(i6 k),(i6 w)]),dV,(.var 209 [(a9 op),(.fn (.func (dM op)) [] []),(.fn (.func (dP op)) [] [])])]⟩
def jX (op : Int) (ws : List Int) (xs : List Int) (k : Int) (w : Int) : St := ⟨[(4,cI),(7,cR),(9,(i6 (bi op ws k w))),(45,(i6 (bi op ws k w))),(46,(i6 (bi op ws k w))),(47,(dB (ax (bi op ws k w))))],[(.var 206 [(LI ws),(LI xs),(i6 k),(i6 w)]),dV,(.var 209 [(a9 op),(.fn (.func (dM op)) [] []),(.fn (.func (dP op)) [] [])])]⟩
def gU (op : Int) (ws : List Int) (xs : List Int) (k : Int) (w : Int) : St := ⟨[(4,cI),(7,cR),(9,(i6 (bi op ws k w))),(44,(.agg [(a9 op),(.fn (.func (dM op)) [] []),(.fn (.func (dP op)) [] [])])),(45,(i6 (bi op ws k w))),(46,(i6 (bi op ws k w))),(47,(dB (ax (bi op ws k w))))],[(.var 206 [(LI ws),(LI xs),(i6 k),(i6 w)]),dV,(.var 209 [(a9 op),(.fn (.func (dM op)) [] []),(.fn (.func (dP op)) [] [])])]⟩
def oW (op : Int) (ws : List Int) (xs : List Int) (k : Int) (w : Int) : St := ⟨[(4,cI),(7,cR),(9,(i6 (bi op ws k w))),(44,(.agg [(a9 op),(.fn (.func (dM op)) [] []),(.fn (.func (dP op)) [] [])])),(46,(i6 (bi op ws k w))),(47,(dB (ax (bi op ws k w))))],[(.var 206 [(LI ws),(LI xs),(i6 k),(i6 w)]),(.var 209 [(a9 op),(.fn (.func (dM op)) [] []),(.fn (.func (dP op)) [] [])]),(.var 209 [(a9 op),(.fn (.func (dM op)) [] []),(.fn (.func (dP op)) [] [])])]⟩
def jY (op : Int) (ws : List Int) (xs : List Int) (k : Int) (w : Int) : St := ⟨[(4,cI),(7,cR),(9,(i6 (bi op ws k w))),(44,(.agg [(a9 op),(.fn (.func (dM op)) [] []),(.fn (.func (dP op)) [] [])])),(45,(i6 (bi op ws k w))),(46,(i6 (bi op ws k w))),(47,(dB (ax (bi op ws k w))))],[(.var 206 [(LI ws),(LI xs),(i6 k),(i6 w)]),(.var 209 [(a9 op),(.fn (.func (dM op)) [] []),(.fn (.func (dP op)) [] [])]),(.var 209 [(a9 op),(.fn (.func (dM op)) [] []),(.fn (.func (dP op)) [] [])])]⟩
def oX (op : Int) (ws : List Int) (xs : List Int) (k : Int) (w : Int) : St := ⟨[(4,cI),(5,(i6 (bi op ws k w))),(7,cR),(9,(i6 (bi op ws k w))),(44,(.agg [(a9 op),(.fn (.func (dM op)) [] []),(.fn (.func (dP op)) [] [])])),(45,(i6 (bi op ws k w))),(46,(i6 (bi op ws k w))),(47,(dB (ax (bi op ws k w))))],[(.var 206 [(LI ws),(LI xs),(i6 k),(i6 w)]),(.var 209 [(a9 op),(.fn (.func (dM op)) [] []),(.fn (.func (dP op)) [] [])]),(.var 209 [(a9 op),(.fn (.func (dM op)) [] []),(.fn (.func (dP op)) [] [])])]⟩
def oY (op : Int) (ws : List Int) (xs : List Int) (k : Int) (w : Int) : St := ⟨[(4,cI),(5,(i6 (bi op ws k w))),(6,(dB (ax (bi op ws k w))))],[(.var 206 [(LI ws),(LI xs),(i6 k),(i6 w)]),(.var 209 [(a9 op),(.fn (.func (dM op)) [] []),(.fn (.func (dP op)) [] [])]),(.var 209 [(a9 op),(.fn (.func (dM op)) [] []),(.fn (.func (dP op)) [] [])])]⟩
def jZ (op : Int) (ws : List Int) (xs : List Int) (k : Int) (w : Int) : St := ⟨[(4,cI),(7,cR),(9,(i6 (bi op ws k w)))],[(.var 206 [(LI ws),(LI xs),(i6 k),(i6 w)]),dV,(.var 209 [(a9 op),(.fn (.func (dM op)) [] []),(.fn (.func (dP op)) [] [])])]⟩
def oZ (op : Int) (ws : List Int) (xs : List Int) (k : Int) (w : Int) : St := ⟨[(4,cI),(7,cR),(9,(i6 (bi op ws k w))),(44,(.agg [(a9 op),(.fn (.func (dM op)) [] []),(.fn (.func (dP op)) [] [])]))],[(.var 206 [(LI ws),(LI xs),(i6 k),(i6 w)]),dV,(.var 209 [(a9 op),(.fn (.func (dM op)) [] []),(.fn (.func (dP op)) [] [])])]⟩
def o0 (op : Int) (ws : List Int) (xs : List Int) (k : Int) (w : Int) : St := ⟨[(4,cI),(7,cR),(9,(i6 (bi op ws k w))),(45,(i6 (bi op ws k w)))],[(.var 206 [(LI ws),(LI xs),(i6 k),(i6 w)]),dV,(.var 209 [(a9 op),(.fn (.func (dM op)) [] []),(.fn (.func (dP op)) [] [])])]⟩
def o6 (op : Int) (ws : List Int) (xs : List Int) (k : Int) (w : Int) : St := ⟨[(4,cI),(7,cR),(9,(i6 (bi op ws k w))),(46,(i6 (bi op ws k w)))],[(.var 206 [(LI ws),(LI xs),(i6 k),(i6 w)]),dV,(.var 209 [(a9 op),(.fn (.func (dM op)) [] []),(.fn (.func (dP op)) [] [])])]⟩
def j4 (op : Int) (ws : List Int) (xs : List Int) (k : Int) (w : Int) : St := ⟨[(4,cI),(7,cR),(9,(i6 (bi op ws k w))),(44,(.agg [(a9 op),(.fn (.func (dM op)) [] []),(.fn (.func (dP op)) [] [])])),(45,(i6 (bi op ws k w)))],[(.var 206 [(LI ws),(LI xs),(i6 k),(i6 w)]),dV,(.var 209 [(a9 op),(.fn (.func (dM op)) [] []),(.fn (.func (dP op)) [] [])])]⟩
def j5 (op : Int) (ws : List Int) (xs : List Int) (k : Int) (w : Int) : St := ⟨[(4,cI),(7,cR),(9,(i6 (bi op ws k w))),(44,(.agg [(a9 op),(.fn (.func (dM op)) [] []),(.fn (.func (dP op)) [] [])])),(46,(i6 (bi op ws k w)))],[(.var 206 [(LI ws),(LI xs),(i6 k),(i6 w)]),dV,(.var 209 [(a9 op),(.fn (.func (dM op)) [] []),(.fn (.func (dP op)) [] [])])]⟩
def j6 (op : Int) (ws : List Int) (xs : List Int) (k : Int) (w : Int) : St := ⟨[(4,cI),(7,cR),(9,(i6 (bi op ws k w))),(45,(i6 (bi op ws k w))),(46,(i6 (bi op ws k w)))],[(.var 206 [(LI ws),(LI xs),(i6 k),(i6 w)]),dV,(.var 209 [(a9 op),(.fn (.func (dM op)) [] []),(.fn (.func (dP op)) [] [])])]⟩
def o7 (op : Int) (ws : List Int) (xs : List Int) (k : Int) (w : Int) : St := ⟨[(4,cI),(7,cR),(9,(i6 (bi op ws k w))),(46,(i6 (bi op ws k w))),(47,(dB (ax (bi op ws k w))))],[(.var 206 [(LI ws),(LI xs),(i6 k),(i6 w)]),dV,(.var 209 [(a9 op),(.fn (.func (dM op)) [] []),(.fn (.func (dP op)) [] [])])]⟩
def gV (op : Int) (ws : List Int) (xs : List Int) (k : Int) (w : Int) : St := ⟨[(4,cI),(7,cR),(9,(i6 (bi op ws k w))),(44,(.agg [(a9 op),(.fn (.func (dM op)) [] []),(.fn (.func (dP op)) [] [])])),(45,(i6 (bi op ws k w))),(46,(i6 (bi op ws k w)))],[(.var 206 [(LI ws),(LI xs),(i6 k),(i6 w)]),dV,(.var 209 [(a9 op),(.fn (.func (dM op)) [] []),(.fn (.func (dP op)) [] [])])]⟩
def j7 (op : Int) (ws : List Int) (xs : List Int) (k : Int) (w : Int) : St := ⟨[(4,cI),(7,cR),(9,(i6 (bi op ws k w))),(44,(.agg [(a9 op),(.fn (.func (dM op)) [] []),(.fn (.func (dP op)) [] [])])),(46,(i6 (bi op ws k w))),(47,(dB (ax (bi op ws k w))))],[(.var 206 [(LI ws),(LI xs),(i6 k),(i6 w)]),dV,(.var 209 [(a9 op),(.fn (.func (dM op)) [] []),(.fn (.func (dP op)) [] [])])]⟩
def jh (op : Int) (ws : List Int) (xs : List Int) (k : Int) (w : Int) : St := ⟨[(4,cI),(7,cR),(9,(i6 (bi op ws k w))),(45,(i6 (bi op ws k w))),(46,(i6 (bi op ws k w))),(47,(dB (ax (bi op ws k w))))],[(.var 206 [(LI ws),(LI xs),(i6 k),(i6 w)]),dV,(.var 209 [(a9 op),(.fn (.func (dM op)) [] []),(.fn (.func (dP op)) [] [])])]⟩
def f9 (op : Int) (ws : List Int) (xs : List Int) (k : Int) (w : Int) : St := ⟨[(4,cI),(7,cR),(9,(i6 (bi op ws k w))),(44,(.agg [(a9 op),(.fn (.func (dM op)) [] []),(.fn (.func (dP op)) [] [])])),(45,(i6 (bi op ws k w))),(46,(i6 (bi op ws k w))),(47,(dB (ax (bi op ws k w))))],[(.var 206 [(LI ws),(LI xs),(i6 k),(i6 w)]),dV,(.var 209 [(a9 op),(.fn (.func (dM op)) [] []),(.fn (.func (dP op)) [] [])])]⟩
def nf (op : Int) (ws : List Int) (xs : List Int) (k : Int) (w : Int) : St := ⟨[(4,cI),(7,cR),(9,(i6 (bi op ws k w))),(44,(.agg [(a9 op),(.fn (.func (dM op)) [] []),(.fn (.func (dP op)) [] [])])),(46,(i6 (bi op ws k w))),(47,(dB (ax (bi op ws k w))))],[(.var 206 [(LI ws),(LI xs),(i6 k),(i6 w)]),(.var 209 [(a9 op),(.fn (.func (dM op)) [] []),(.fn (.func (dP op)) [] [])]),(.var 209 [(a9 op),(.fn (.func (dM op)) [] []),(.fn (.func (dP op)) [] [])])]⟩
def ji (op : Int) (ws : List Int) (xs : List Int) (k : Int) (w : Int) : St := ⟨[(4,cI),(7,cR),(9,(i6 (bi op ws k w))),(44,(.agg [(a9 op),(.fn (.func (dM op)) [] []),(.fn (.func (dP op)) [] [])])),(45,(i6 (bi op ws k w))),(46,(i6 (bi op ws k w))),(47,(dB (ax (bi op ws k w))))],[(.var 206 [(LI ws),(LI xs),(i6 k),(i6 w)]),(.var 209 [(a9 op),(.fn (.func (dM op)) [] []),(.fn (.func (dP op)) [] [])]),(.var 209 [(a9 op),(.fn (.func (dM op)) [] []),(.fn (.func (dP op)) [] [])])]⟩
def ng (op : Int) (ws : List Int) (xs : List Int) (k : Int) (w : Int) : St := ⟨[(4,cI),(5,(i6 (bi op ws k w))),(7,cR),(9,(i6 (bi op ws k w))),(44,(.agg [(a9 op),(.fn (.func (dM op)) [] []),(.fn (.func (dP op)) [] [])])),(45,(i6 (bi op ws k w))),(46,(i6 (bi op ws k w))),(47,(dB (ax (bi op ws k w))))],[(.var 206 [(LI ws),(LI xs),(i6 k),(i6 w)]),(.var 209 [(a9 op),(.fn (.func (dM op)) [] []),(.fn (.func (dP op)) [] [])]),(.var 209 [(a9 op),(.fn (.func (dM op)) [] []),(.fn (.func (dP op)) [] [])])]⟩
def nh (op : Int) (ws : List Int) (xs : List Int) (k : Int) (w : Int) : St := ⟨[(4,cI),(5,(i6 (bi op ws k w))),(6,(dB (ax (bi op ws k w))))],[(.var 206 [(LI ws),(LI xs),(i6 k),(i6 w)]),(.var 209 [(a9 op),(.fn (.func (dM op)) [] []),(.fn (.func (dP op)) [] [])]),(.var 209 [(a9 op),(.fn (.func (dM op)) [] []),(.fn (.func (dP op)) [] [])])]⟩
theorem t8 (op : Int) (ws xs : List Int) (k w : Int) (hw : ws.length ≤ 9223372036854775807) (h : wV op ws = true) : CC (Bf op ws xs k w) := by
 obtain ⟨h1,h2⟩ := vt h
 have hop := sy h
 refine ak.vc (V := TT 4 (CS (op = 2 ∨ op = 3 ∨ op = 4 ∨ op = 5 ∨ op = 6 ∨ op = 7 ∨ op = 8 ∨ op = 9) (CC vw∧TT 1 ((∃ (j : Nat) (e : Int × Value),eT[j]? = some e∧op = e.1∧(∀ e' ∈ eT.take j,op ≠ e'.1)∧tj (D.ofVal e.2) (.agg [(a9 op),(.fn (.func (dM op)) [] []),(.fn (.func (dP op)) [] [])]))∧TT 18 ((True∧(!decide ((ws.length : Int) = (bn op))) = false)∧TT 2 (CC (ES ws)∧TT 1 ((!(ws.all ax)) = false∧TT 3 (GC (cW op ws xs k w)∧TT 1 ((lk op ws xs k w) = (lk op ws xs k w)∧(((sE (qS op ws xs k w) (True))∧(sE (qT op ws xs k w) (True))∧(sE (qU op ws xs k w) (True))∧True)∧((sE (ll op ws xs k w) (True))∧(sE (lm op ws xs k w) (True))∧True)∧((sE (ll op ws xs k w) (True))∧(sE (ln op ws xs k w) (True))∧True)∧((sE (lm op ws xs k w) (True))∧(sE (ln op ws xs k w) (True))∧(sE (qV op ws xs k w) (CC (gB (bi op ws k w))))∧True)∧((sE (i2 op ws xs k w) (True))∧True)∧((sE (i2 op ws xs k w) (True))∧(sE (lq op ws xs k w) (CC (gB (bi op ws k w))))∧True)∧((sE (i2 op ws xs k w) (True))∧(sE (jX op ws xs k w) (CC (gB (bi op ws k w))))∧True)∧((sE (lq op ws xs k w) (True))∧(sE (jX op ws xs k w) (True))∧True)∧((sE (gU op ws xs k w) (CC (gB (bi op ws k w))))∧True)∧((sE (gU op ws xs k w) (True))∧(sE (oW op ws xs k w) (True))∧True)∧((sE (gU op ws xs k w) (True))∧True)∧((sE (jY op ws xs k w) (True))∧True)∧((sE (jY op ws xs k w) (True))∧True)∧((sE (oX op ws xs k w) (True))∧True)∧((sE (oY op ws xs k w) (True))∧True)∧True∧True)∧TT 3 (((bn op) = (bn op)∧((.fn (.func (dM op)) [] []) : D) = (.fn (.func (dM op)) [] [])∧((.fn (.func (dP op)) [] []) : D) = (.fn (.func (dP op)) [] [])∧True)∧(bi op ws k w) = (bi op ws k w)∧(ax (bi op ws k w)) = (ax (bi op ws k w))∧True)))))))) (CC vw∧TT 1 ((∀ e' ∈ eT,op ≠ e'.1)∧TT 8 (CC yA∧TT 1 ((∃ (j : Nat) (e : Int × Value),fy[j]? = some e∧op = e.1∧(∀ e' ∈ fy.take j,op ≠ e'.1)∧tj (D.ofVal e.2) (.agg [(a9 op),(.fn (.func (dM op)) [] []),(.fn (.func (dP op)) [] [])]))∧TT 15 ((True∧(!decide ((ws.length : Int) = (bn op))) = false)∧TT 2 (CC (ES ws)∧TT 1 ((!(ws.all ax)) = false∧TT 3 (GC (cW op ws xs k w)∧TT 1 ((jZ op ws xs k w) = (jZ op ws xs k w)∧(((sE (oZ op ws xs k w) (True))∧(sE (o0 op ws xs k w) (True))∧(sE (o6 op ws xs k w) (True))∧True)∧((sE (j4 op ws xs k w) (True))∧(sE (j5 op ws xs k w) (True))∧True)∧((sE (j4 op ws xs k w) (True))∧(sE (j6 op ws xs k w) (True))∧True)∧((sE (j5 op ws xs k w) (True))∧(sE (j6 op ws xs k w) (True))∧(sE (o7 op ws xs k w) (CC (gB (bi op ws k w))))∧True)∧((sE (gV op ws xs k w) (True))∧True)∧((sE (gV op ws xs k w) (True))∧(sE (j7 op ws xs k w) (CC (gB (bi op ws k w))))∧True)∧((sE (gV op ws xs k w) (True))∧(sE (jh op ws xs k w) (CC (gB (bi op ws k w))))∧True)∧((sE (j7 op ws xs k w) (True))∧(sE (jh op ws xs k w) (True))∧True)∧((sE (f9 op ws xs k w) (CC (gB (bi op ws k w))))∧True)∧((sE (f9 op ws xs k w) (True))∧(sE (nf op ws xs k w) (True))∧True)∧((sE (f9 op ws xs k w) (True))∧True)∧((sE (ji op ws xs k w) (True))∧True)∧((sE (ji op ws xs k w) (True))∧True)∧((sE (ng op ws xs k w) (True))∧True)∧((sE (nh op ws xs k w) (True))∧True)∧True∧True)∧TT 3 (((bn op) = (bn op)∧((.fn (.func (dM op)) [] []) : D) = (.fn (.func (dM op)) [] [])∧((.fn (.func (dP op)) [] []) : D) = (.fn (.func (dP op)) [] [])∧True)∧(bi op ws k w) = (bi op ws k w)∧(ax (bi op ws k w)) = (ax (bi op ws k w))∧True)))))))))))) (.s 1 (op = 2 ∨ op = 3 ∨ op = 4 ∨ op = 5 ∨ op = 6 ∨ op = 7 ∨ op = 8 ∨ op = 9) (.w 1 [(0,vw.O),(2,.ent (.agg [(a9 op),(.fn (.func (dM op)) [] []),(.fn (.func (dP op)) [] [])]))] <| .w 4 [(10,.val (dB false)),(13,(ES ws).O)] <| .u 38 (.w 6 [(3,.callg none false (i6 (bi op ws k w)))] <| .y 7 [(3,(gB (bi op ws k w)).O)] [((bm 7 0),(lk op ws xs k w)),((bm 7 1),(qS op ws xs k w)),((bm 7 2),(qT op ws xs k w)),((bm 7 4),(qU op ws xs k w)),((bm 7 3),(ll op ws xs k w)),((bm 7 5),(lm op ws xs k w)),((bm 7 6),(ln op ws xs k w)),((bm 7 12),(qV op ws xs k w)),((bm 7 7),(i2 op ws xs k w)),((bm 7 13),(lq op ws xs k w)),((bm 7 14),(jX op ws xs k w)),((bm 7 15),(gU op ws xs k w)),((bm 7 29),(oW op ws xs k w)),((bm 7 31),(jY op ws xs k w)),((bm 7 63),(oX op ws xs k w)),((bm 7 127),(oY op ws xs k w))] <| .e)) (.w 1 [(0,vw.O),(2,.idx none)] <| .w 3 [(0,yA.O),(2,.ent (.agg [(a9 op),(.fn (.func (dM op)) [] []),(.fn (.func (dP op)) [] [])]))] <| .w 4 [(10,.val (dB false)),(13,(ES ws).O)] <| .u 38 (.w 6 [(3,.callg none false (i6 (bi op ws k w)))] <| .y 7 [(3,(gB (bi op ws k w)).O)] [((bm 7 0),(jZ op ws xs k w)),((bm 7 1),(oZ op ws xs k w)),((bm 7 2),(o0 op ws xs k w)),((bm 7 4),(o6 op ws xs k w)),((bm 7 3),(j4 op ws xs k w)),((bm 7 5),(j5 op ws xs k w)),((bm 7 6),(j6 op ws xs k w)),((bm 7 12),(o7 op ws xs k w)),((bm 7 7),(gV op ws xs k w)),((bm 7 13),(j7 op ws xs k w)),((bm 7 14),(jh op ws xs k w)),((bm 7 15),(f9 op ws xs k w)),((bm 7 29),(nf op ws xs k w)),((bm 7 31),(ji op ws xs k w)),((bm 7 63),(ng op ws xs k w)),((bm 7 127),(nh op ws xs k w))] <| .e))) Tryz.func117 rfl rfl rfl (by kernel_rfl) ?_
 refine tt ⟨fun hs0 => ?_,fun hs0 => ?_⟩
 · have hS := hs0
   exact ⟨l6,tt ⟨(sA hS),tt ⟨(nF h1),tt ⟨(iZ ws hw),tt ⟨(qQ h2),tt ⟨(FL op ws xs k w h),tt ⟨rfl,⟨⟨⟨⟨rfl,oK,oK⟩,⟨rfl,oK,oK⟩,⟨rfl,oK,oK⟩,oK⟩,⟨⟨rfl,oK,oK⟩,⟨rfl,oK,oK⟩,oK⟩,⟨⟨rfl,oK,oK⟩,⟨rfl,oK,oK⟩,oK⟩,⟨⟨rfl,oK,oK⟩,⟨rfl,oK,oK⟩,⟨rfl,(dz (bi op ws k w)),oK⟩,oK⟩,⟨⟨rfl,oK,oK⟩,oK⟩,⟨⟨rfl,oK,oK⟩,⟨rfl,(dz (bi op ws k w)),oK⟩,oK⟩,⟨⟨rfl,oK,oK⟩,⟨rfl,(dz (bi op ws k w)),oK⟩,oK⟩,⟨⟨rfl,oK,oK⟩,⟨rfl,oK,oK⟩,oK⟩,⟨⟨rfl,(dz (bi op ws k w)),oK⟩,oK⟩,⟨⟨rfl,oK,oK⟩,⟨rfl,oK,oK⟩,oK⟩,⟨⟨rfl,oK,oK⟩,oK⟩,⟨⟨rfl,oK,oK⟩,oK⟩,⟨⟨rfl,oK,oK⟩,oK⟩,⟨⟨rfl,oK,oK⟩,oK⟩,⟨⟨rfl,oK,oK⟩,oK⟩,oK,oK⟩,tt ⟨⟨rfl,rfl,rfl,oK⟩,rfl,rfl,oK⟩⟩⟩⟩⟩⟩⟩⟩⟩
 · have hS := hs0
   exact ⟨l6,tt ⟨(sB hS),tt ⟨qr,tt ⟨(sC (by omega)),tt ⟨(nF h1),tt ⟨(iZ ws hw),tt ⟨(qQ h2),tt ⟨(FL op ws xs k w h),tt ⟨rfl,⟨⟨⟨⟨rfl,oK,oK⟩,⟨rfl,oK,oK⟩,⟨rfl,oK,oK⟩,oK⟩,⟨⟨rfl,oK,oK⟩,⟨rfl,oK,oK⟩,oK⟩,⟨⟨rfl,oK,oK⟩,⟨rfl,oK,oK⟩,oK⟩,⟨⟨rfl,oK,oK⟩,⟨rfl,oK,oK⟩,⟨rfl,(dz (bi op ws k w)),oK⟩,oK⟩,⟨⟨rfl,oK,oK⟩,oK⟩,⟨⟨rfl,oK,oK⟩,⟨rfl,(dz (bi op ws k w)),oK⟩,oK⟩,⟨⟨rfl,oK,oK⟩,⟨rfl,(dz (bi op ws k w)),oK⟩,oK⟩,⟨⟨rfl,oK,oK⟩,⟨rfl,oK,oK⟩,oK⟩,⟨⟨rfl,(dz (bi op ws k w)),oK⟩,oK⟩,⟨⟨rfl,oK,oK⟩,⟨rfl,oK,oK⟩,oK⟩,⟨⟨rfl,oK,oK⟩,oK⟩,⟨⟨rfl,oK,oK⟩,oK⟩,⟨⟨rfl,oK,oK⟩,oK⟩,⟨⟨rfl,oK,oK⟩,oK⟩,⟨⟨rfl,oK,oK⟩,oK⟩,oK,oK⟩,tt ⟨⟨rfl,rfl,rfl,oK⟩,rfl,rfl,oK⟩⟩⟩⟩⟩⟩⟩⟩⟩⟩⟩
abbrev Bg (op : Int) (ws xs : List Int) (k w : Int) : Ct := ⟨117,[(i6 op),(.agg [(LI ws),(LI xs),(i6 k),(i6 w)])],true,(.tup [(.agg [(i6 0),(.v .nilf),(.v .nilf)]),(i6 0),(dB false)])⟩
theorem t9 (op : Int) (ws xs : List Int) (k w : Int) (hw : ws.length ≤ 9223372036854775807) (h : wV op ws = false) : CC (Bg op ws xs k w) := by
 refine ak.vc (V := TT 4 (CS (op = 2 ∨ op = 3 ∨ op = 4 ∨ op = 5 ∨ op = 6 ∨ op = 7 ∨ op = 8 ∨ op = 9) (CC vw∧TT 1 ((∃ (j : Nat) (e : Int × Value),eT[j]? = some e∧op = e.1∧(∀ e' ∈ eT.take j,op ≠ e'.1)∧tj (D.ofVal e.2) (.agg [(a9 op),(.fn (.func (dM op)) [] []),(.fn (.func (dP op)) [] [])]))∧TT 8 (CS ((ws.length : Int) = (bn op)) (TT 10 ((True∧(!decide ((ws.length : Int) = (bn op))) = false)∧TT 2 (CC (ES ws)∧TT 1 ((!(ws.all ax)) = true∧TT 7 (((0 : Int) = 0∧True∧True∧True)∧(0 : Int) = 0∧false = false∧True))))) (TT 10 ((True∧(!decide ((ws.length : Int) = (bn op))) = true)∧TT 11 (((0 : Int) = 0∧True∧True∧True)∧(0 : Int) = 0∧false = false∧True)))))) (CC vw∧TT 1 ((∀ e' ∈ eT,op ≠ e'.1)∧TT 8 (CS (op = 1 ∨ op = 10 ∨ op = 11 ∨ op = 12 ∨ op = 13) (CC yA∧TT 1 ((∃ (j : Nat) (e : Int × Value),fy[j]? = some e∧op = e.1∧(∀ e' ∈ fy.take j,op ≠ e'.1)∧tj (D.ofVal e.2) (.agg [(a9 op),(.fn (.func (dM op)) [] []),(.fn (.func (dP op)) [] [])]))∧TT 5 (CS ((ws.length : Int) = (bn op)) (TT 10 ((True∧(!decide ((ws.length : Int) = (bn op))) = false)∧TT 2 (CC (ES ws)∧TT 1 ((!(ws.all ax)) = true∧TT 7 (((0 : Int) = 0∧True∧True∧True)∧(0 : Int) = 0∧false = false∧True))))) (TT 10 ((True∧(!decide ((ws.length : Int) = (bn op))) = true)∧TT 11 (((0 : Int) = 0∧True∧True∧True)∧(0 : Int) = 0∧false = false∧True)))))) (CC yA∧TT 1 ((∀ e' ∈ fy,op ≠ e'.1)∧TT 27 (((0 : Int) = 0∧True∧True∧True)∧(0 : Int) = 0∧false = false∧True)))))))) (.s 1 (op = 2 ∨ op = 3 ∨ op = 4 ∨ op = 5 ∨ op = 6 ∨ op = 7 ∨ op = 8 ∨ op = 9) (.w 1 [(0,vw.O),(2,.ent (.agg [(a9 op),(.fn (.func (dM op)) [] []),(.fn (.func (dP op)) [] [])]))] <| .s 4 ((ws.length : Int) = (bn op)) (.w 4 [(10,.val (dB false)),(13,(ES ws).O)] <| .t 38 (.e)) (.w 4 [(10,.val (dB true))] <| .e)) (.w 1 [(0,vw.O),(2,.idx none)] <| .s 3 (op = 1 ∨ op = 10 ∨ op = 11 ∨ op = 12 ∨ op = 13) (.w 3 [(0,yA.O),(2,.ent (.agg [(a9 op),(.fn (.func (dM op)) [] []),(.fn (.func (dP op)) [] [])]))] <| .s 4 ((ws.length : Int) = (bn op)) (.w 4 [(10,.val (dB false)),(13,(ES ws).O)] <| .t 38 (.e)) (.w 4 [(10,.val (dB true))] <| .e)) (.w 3 [(0,yA.O),(2,.idx none)] <| .e))) Tryz.func117 rfl rfl rfl (by kernel_rfl) ?_
 refine tt ⟨fun hs0 => ?_,fun hs0 => ?_⟩
 · have hS := hs0
   refine ⟨l6,tt ⟨(sA hS),tt ⟨fun hs1 => ?_,fun hs1 => ?_⟩⟩⟩
   · exact tt ⟨(nF hs1),tt ⟨(iZ ws hw),tt ⟨(Iw (by rcases CQ h with h5 | ⟨_,h5⟩; exact absurd (by assumption) h5; rw [h5]; simp)),tt ⟨⟨rfl,oK,oK,oK⟩,rfl,rfl,oK⟩⟩⟩⟩
   · exact tt ⟨(nT hs1),tt ⟨⟨rfl,oK,oK,oK⟩,rfl,rfl,oK⟩⟩
 · have hS := hs0
   refine ⟨l6,tt ⟨(sB hS),tt ⟨fun hs2 => ?_,fun hs2 => ?_⟩⟩⟩
   · have hO := hs2
     refine ⟨qr,tt ⟨(sC hO),tt ⟨fun hs3 => ?_,fun hs3 => ?_⟩⟩⟩
     · exact tt ⟨(nF hs3),tt ⟨(iZ ws hw),tt ⟨(Iw (by rcases CQ h with h5 | ⟨_,h5⟩; exact absurd (by assumption) h5; rw [h5]; simp)),tt ⟨⟨rfl,oK,oK,oK⟩,rfl,rfl,oK⟩⟩⟩⟩
     · exact tt ⟨(nT hs3),tt ⟨⟨rfl,oK,oK,oK⟩,rfl,rfl,oK⟩⟩
   · have hO := hs2
     exact ⟨qr,tt ⟨(yB hO),tt ⟨⟨rfl,oK,oK,oK⟩,rfl,rfl,oK⟩⟩⟩
theorem nN {op : Int} {ws : List Int} {k w : Int} (h : wV op ws = true) (h2 : ax (bi op ws k w) = true) : gj op ws k w = true := by rw [yy,h,h2]; rfl
theorem cy {op : Int} {ws : List Int} {k w : Int} (h : ¬wV op ws = true) : gj op ws k w = false := by rw [yy,Bool.eq_false_iff.2 h]; rfl
theorem cz {op : Int} {ws : List Int} {k w : Int} (h2 : ¬ax (bi op ws k w) = true) : gj op ws k w = false := by rw [yy,Bool.eq_false_iff.2 h2,Bool.and_false]
theorem kM {op : Int} {ws : List Int} {k w : Int} (h : gj op ws k w = false) : 0 = bS op ws k w∧1 = jf op ws k w := by unfold bS jf; rw [h]; exact ⟨rfl,rfl⟩
theorem qs {op : Int} {ws : List Int} {k w : Int} (h : gj op ws k w = true) : bi op ws k w = bS op ws k w∧0 = jf op ws k w := by unfold bS jf; rw [h]; exact ⟨rfl,rfl⟩
abbrev Gi (op : Int) (ws : List Int) (k w : Int) : Ct := ⟨114,[(i6 op),(LI ws),(.agg [(i6 k),(i6 w)])],false,(.tup [(i6 (bS op ws k w)),(i6 (jf op ws k w))])⟩
theorem C2 (op : Int) (ws : List Int) (k w : Int) (hw : ws.length ≤ 9223372036854775807) : CC (Gi op ws k w) := by
 refine ak.vc (V := TT 3 (CS (wV op ws = true) (TT 2 (((0 ≤ (0 : Int)∧0 < (2 : Int))∧True)∧TT 1 (((0 ≤ (1 : Int)∧1 < (2 : Int))∧True)∧TT 2 ((xN [] [(i6 op),(.agg [(LI ws),.nils,(i6 k),(i6 w)])] (Bf op ws [] k w).as∧CC (Bf op ws [] k w))∧TT 10 (CB (!(ax (bi op ws k w))) (TT 4 (((0 : Int) = (bS op ws k w)∧(1 : Int) = (jf op ws k w)∧True)∧(True∧True∧True))) (TT 5 (((bi op ws k w) = (bS op ws k w)∧(0 : Int) = (jf op ws k w)∧True)∧(True∧True∧True)))))))) (TT 2 (((0 ≤ (0 : Int)∧0 < (2 : Int))∧True)∧TT 1 (((0 ≤ (1 : Int)∧1 < (2 : Int))∧True)∧TT 2 ((xN [] [(i6 op),(.agg [(LI ws),.nils,(i6 k),(i6 w)])] (Bg op ws [] k w).as∧CC (Bg op ws [] k w))∧TT 14 (((0 : Int) = (bS op ws k w)∧(1 : Int) = (jf op ws k w)∧True)∧(True∧True∧True)))))))) (.s 1 (wV op ws = true) (.w 1 [(7,(Bf op ws [] k w).O')] <| .b 24 (.e) (.e)) (.w 1 [(7,(Bg op ws [] k w).O')] <| .e)) Tryz.func114 rfl rfl rfl (by kernel_rfl) ?_
 refine tt ⟨fun hs0 => ?_,fun hs0 => ?_⟩
 · have hb := hs0
   refine tt ⟨⟨by omega,oK⟩,tt ⟨⟨by omega,oK⟩,tt ⟨⟨⟨rfl,⟨rfl,rfl,rfl,rfl,oK⟩,oK⟩,(t8 op ws [] k w hw hb)⟩,tt ⟨fun hc24 => ?_,fun hc24 => ?_⟩⟩⟩⟩
   · refine tt ⟨⟨?_,?_,oK⟩,⟨oK,oK,oK⟩⟩
     all_goals (first | exact (kM (cy hb)).1 | exact (kM (cy hb)).2 | exact (kM (cz (by simpa using hc24))).1 | exact (kM (cz (by simpa using hc24))).2 | exact (qs (nN hb (by simpa using hc24))).1 | exact (qs (nN hb (by simpa using hc24))).2)
   · refine tt ⟨⟨?_,?_,oK⟩,⟨oK,oK,oK⟩⟩
     all_goals (first | exact (kM (cy hb)).1 | exact (kM (cy hb)).2 | exact (kM (cz (by simpa using hc24))).1 | exact (kM (cz (by simpa using hc24))).2 | exact (qs (nN hb (by simpa using hc24))).1 | exact (qs (nN hb (by simpa using hc24))).2)
 · have hb := hs0
   refine tt ⟨⟨by omega,oK⟩,tt ⟨⟨by omega,oK⟩,tt ⟨⟨⟨rfl,⟨rfl,rfl,rfl,rfl,oK⟩,oK⟩,(t9 op ws [] k w hw (Bool.eq_false_iff.2 hb))⟩,tt ⟨⟨?_,?_,oK⟩,⟨oK,oK,oK⟩⟩⟩⟩⟩
   all_goals (first | exact (kM (cy hb)).1 | exact (kM (cy hb)).2 | exact (kM (cz (by simpa using hc24))).1 | exact (kM (cz (by simpa using hc24))).2 | exact (qs (nN hb (by simpa using hc24))).1 | exact (qs (nN hb (by simpa using hc24))).2)
abbrev Gj (op : Int) (ws xs nums : List Int) : Ct := ⟨113,[(i6 op),(LI ws),(LI xs),(LI nums)],false,(.tup [(i6 (cA op ws xs nums)),(i6 (gA op ws xs nums))])⟩
abbrev o8 (op : Int) (ws : List Int) (xs : List Int) (nums : List Int) : Lp (Nat) := gJ [1,10,11,44,45,46] 11 (fun (i : Nat) => ⟨[(1,(LI ws)),(10,(.ptr 9 0 0 0)),(11,(.ptr 10 0 0 0)),(44,(LI xs)),(45,(i6 (xs.length : Int))),(46,(i6 (i : Int)))],[.dead,.dead,.dead,.dead,.dead,.dead,.dead,.dead,.dead,(.var 206 [(LI ws),(LI xs),(i6 (nums.getD 0 0)),(i6 (nums.getD 1 0))]),(.var 209 [(a9 op),(.fn (.func (dM op)) [] []),(.fn (.func (dP op)) [] [])])]⟩) (fun (i : Nat) => i ≤ xs.length∧∀ j,j < i → 0 ≤ xs.getD j 0∧xs.getD j 0 ≤ aj (ws.getD j 0)) (fun (i : Nat) => xs.length - i)
theorem C3 (op : Int) (ws xs nums : List Int) (hwl : ws.length ≤ 9223372036854775807) (hxl0 : xs.length ≤ 9223372036854775807) : CC (Gj op ws xs nums) := by
 refine ak.vc (V := TT 2 (CS ((nums.length : Int) = 2) (TT 3 ((True∧(!decide ((nums.length : Int) = 2)) = false)∧TT 6 (CN ((xs.length : Int) = (ws.length : Int)) (TT 4 (((0 : Int) = (cA op ws xs nums)∧(1 : Int) = (gA op ws xs nums)∧True)∧(True∧True∧True))) (TT 3 (IX 0 nums.length∧TT 2 (IX 1 nums.length∧TT 4 (CS (wV op ws = true) (TT 2 (CC (Bf op ws xs (nums.getD 0 0) (nums.getD 1 0))∧TT 10 (CB (!(ax (bi op ws (nums.getD 0 0) (nums.getD 1 0)))) (TT 4 (((0 : Int) = (cA op ws xs nums)∧(1 : Int) = (gA op ws xs nums)∧True)∧(True∧True∧True))) (TT 3 (GO (o8 op ws xs nums) 0 (∀ i,(o8 op ws xs nums).inv i → TT 1 (CD ((i : Int) < (xs.length : Int)) (TT 1 (IX (i : Int) xs.length∧TT 3 (CS ((xs.getD i 0) < 0) (TT 2 ((True∧(decide ((xs.getD i 0) < 0)) = true)∧TT 12 (((0 : Int) = (cA op ws xs nums)∧(1 : Int) = (gA op ws xs nums)∧True)∧(True∧True∧True)))) (TT 2 ((True∧(decide ((xs.getD i 0) < 0)) = false)∧TT 3 (IX (i : Int) ws.length∧TT 1 (CC (CR (ws.getD i 0))∧TT 2 (CD ((xs.getD i 0) > (aj (ws.getD i 0))) (TT 4 (((0 : Int) = (cA op ws xs nums)∧(1 : Int) = (gA op ws xs nums)∧True)∧(True∧True∧True))) (W6 ((i + 1 : Nat) : Int)∧TT 1 (AG (o8 op ws xs nums) i (i + 1))))))))))) (TT 3 (GC (cV op ws xs (nums.getD 0 0) (nums.getD 1 0))∧TT 4 (((ip op ws xs (nums.getD 0 0) (nums.getD 1 0)) = (cA op ws xs nums)∧(0 : Int) = (gA op ws xs nums)∧True)∧(True∧True∧True))))))))))) (TT 2 (CC (Bg op ws xs (nums.getD 0 0) (nums.getD 1 0))∧TT 14 (((0 : Int) = (cA op ws xs nums)∧(1 : Int) = (gA op ws xs nums)∧True)∧(True∧True∧True))))))))))) (TT 3 ((True∧(!decide ((nums.length : Int) = 2)) = true)∧TT 10 (((0 : Int) = (cA op ws xs nums)∧(1 : Int) = (gA op ws xs nums)∧True)∧(True∧True∧True)))))) (.s 1 ((nums.length : Int) = 2) (.w 1 [(3,.val (dB false))] <| .b 25 (.e) (.s 4 (wV op ws = true) (.w 4 [(2,(Bf op ws xs (nums.getD 0 0) (nums.getD 1 0)).O)] <| .b 43 (.e) (.l (o8 op ws xs nums) 0 (fun i => .b 47 (.s 10 ((xs.getD i 0) < 0) (.w 10 [(2,.val (dB true))] <| .e) (.w 10 [(2,.val (dB false)),(8,(CR (ws.getD i 0)).O)] <| .b 61 (.e) (.w 12 [(0,.val (i6 ((i + 1 : Nat) : Int)))] <| .e))) (.w 13 [(3,.callg none false (i6 (ip op ws xs (nums.getD 0 0) (nums.getD 1 0))))] <| .e)))) (.w 4 [(2,(Bg op ws xs (nums.getD 0 0) (nums.getD 1 0)).O)] <| .e))) (.w 1 [(3,.val (dB true))] <| .e)) Tryz.func113 rfl rfl rfl (by kernel_rfl) ?_
 refine tt ⟨fun hs0 => ?_,fun hs0 => ?_⟩
 · refine tt ⟨(nF hs0),tt (cn (fun hc25 => ?_) (fun hc25 => ?_))⟩
   · refine tt ⟨⟨?_,?_,oK⟩,⟨oK,oK,oK⟩⟩
     all_goals (first | exact (a8 (oS (by omega))).1.symm | exact (a8 (oS (by omega))).2.symm | exact (a8 (oT (by omega))).1.symm | exact (a8 (oT (by omega))).2.symm | exact (a8 (ca (cy hb))).1.symm | exact (a8 (ca (cy hb))).2.symm | exact (a8 (ca (cz (by simpa using hc43)))).1.symm | exact (a8 (ca (cz (by simpa using hc43)))).2.symm | exact (a8 (iY (i := i) (by omega) (by omega))).1.symm | exact (a8 (iY (i := i) (by omega) (by omega))).2.symm | exact (dg hl2 hxl hok hin).1.symm | exact (dg hl2 hxl hok hin).2.symm)
   · refine tt ⟨ix,tt ⟨ix,tt ⟨fun hs1 => ?_,fun hs1 => ?_⟩⟩⟩
     · have hb := hs1
       refine tt ⟨(t8 op ws xs (nums.getD 0 0) (nums.getD 1 0) hwl hb),tt ⟨fun hc43 => ?_,fun hc43 => ?_⟩⟩
       · refine tt ⟨⟨?_,?_,oK⟩,⟨oK,oK,oK⟩⟩
         all_goals (first | exact (a8 (oS (by omega))).1.symm | exact (a8 (oS (by omega))).2.symm | exact (a8 (oT (by omega))).1.symm | exact (a8 (oT (by omega))).2.symm | exact (a8 (ca (cy hb))).1.symm | exact (a8 (ca (cy hb))).2.symm | exact (a8 (ca (cz (by simpa using hc43)))).1.symm | exact (a8 (ca (cz (by simpa using hc43)))).2.symm | exact (a8 (iY (i := i) (by omega) (by omega))).1.symm | exact (a8 (iY (i := i) (by omega) (by omega))).2.symm | exact (dg hl2 hxl hok hin).1.symm | exact (dg hl2 hxl hok hin).2.symm)
       · refine tt ?_
         have hok := nN hb (by simpa using hc43)
         have hl2 : nums.length = 2 := by omega
         have hxl : xs.length = ws.length := by omega
         refine ⟨rfl,⟨by omega,fun j hj => by omega⟩,?_⟩
         intro i hinv
         obtain ⟨hi,hall⟩ := hinv
         refine tt (cd (fun hc47 => ?_) (fun hc47 => ?_))
         · refine tt ⟨ix,tt ⟨fun hs2 => ?_,fun hs2 => ?_⟩⟩
           · refine tt ⟨(vT hs2),tt ⟨⟨?_,?_,oK⟩,⟨oK,oK,oK⟩⟩⟩
             all_goals (first | exact (a8 (oS (by omega))).1.symm | exact (a8 (oS (by omega))).2.symm | exact (a8 (oT (by omega))).1.symm | exact (a8 (oT (by omega))).2.symm | exact (a8 (ca (cy hb))).1.symm | exact (a8 (ca (cy hb))).2.symm | exact (a8 (ca (cz (by simpa using hc43)))).1.symm | exact (a8 (ca (cz (by simpa using hc43)))).2.symm | exact (a8 (iY (i := i) (by omega) (by omega))).1.symm | exact (a8 (iY (i := i) (by omega) (by omega))).2.symm | exact (dg hl2 hxl hok hin).1.symm | exact (dg hl2 hxl hok hin).2.symm)
           · refine tt ⟨(vF hs2),tt ⟨ix,tt ⟨(oU (ws.getD i 0)),tt (cd (fun hc61 => ?_) (fun hc61 => ?_))⟩⟩⟩
             · refine tt ⟨⟨?_,?_,oK⟩,⟨oK,oK,oK⟩⟩
               all_goals (first | exact (a8 (oS (by omega))).1.symm | exact (a8 (oS (by omega))).2.symm | exact (a8 (oT (by omega))).1.symm | exact (a8 (oT (by omega))).2.symm | exact (a8 (ca (cy hb))).1.symm | exact (a8 (ca (cy hb))).2.symm | exact (a8 (ca (cz (by simpa using hc43)))).1.symm | exact (a8 (ca (cz (by simpa using hc43)))).2.symm | exact (a8 (iY (i := i) (by omega) (by omega))).1.symm | exact (a8 (iY (i := i) (by omega) (by omega))).2.symm | exact (dg hl2 hxl hok hin).1.symm | exact (dg hl2 hxl hok hin).2.symm)
             · refine ⟨w6,tt ⟨(i + 1),rfl,?_,(?_ : xs.length - (i + 1) < xs.length - i)⟩⟩
               · exact ⟨by omega,ce hall ⟨by omega,by omega⟩⟩
               · omega
         · have hin : wT ws xs = true := CP (fun j hj => hall j (by omega))
           refine tt ⟨(Hz op ws xs _ _ hok hxl hin),tt ⟨⟨?_,?_,oK⟩,⟨oK,oK,oK⟩⟩⟩
           all_goals (first | exact (a8 (oS (by omega))).1.symm | exact (a8 (oS (by omega))).2.symm | exact (a8 (oT (by omega))).1.symm | exact (a8 (oT (by omega))).2.symm | exact (a8 (ca (cy hb))).1.symm | exact (a8 (ca (cy hb))).2.symm | exact (a8 (ca (cz (by simpa using hc43)))).1.symm | exact (a8 (ca (cz (by simpa using hc43)))).2.symm | exact (a8 (iY (i := i) (by omega) (by omega))).1.symm | exact (a8 (iY (i := i) (by omega) (by omega))).2.symm | exact (dg hl2 hxl hok hin).1.symm | exact (dg hl2 hxl hok hin).2.symm)
     · have hb := hs1
       refine tt ⟨(t9 op ws xs (nums.getD 0 0) (nums.getD 1 0) hwl (Bool.eq_false_iff.2 hb)),tt ⟨⟨?_,?_,oK⟩,⟨oK,oK,oK⟩⟩⟩
       all_goals (first | exact (a8 (oS (by omega))).1.symm | exact (a8 (oS (by omega))).2.symm | exact (a8 (oT (by omega))).1.symm | exact (a8 (oT (by omega))).2.symm | exact (a8 (ca (cy hb))).1.symm | exact (a8 (ca (cy hb))).2.symm | exact (a8 (ca (cz (by simpa using hc43)))).1.symm | exact (a8 (ca (cz (by simpa using hc43)))).2.symm | exact (a8 (iY (i := i) (by omega) (by omega))).1.symm | exact (a8 (iY (i := i) (by omega) (by omega))).2.symm | exact (dg hl2 hxl hok hin).1.symm | exact (dg hl2 hxl hok hin).2.symm)
 · refine tt ⟨(nT hs0),tt ⟨⟨?_,?_,oK⟩,⟨oK,oK,oK⟩⟩⟩
   all_goals (first | exact (a8 (oS (by omega))).1.symm | exact (a8 (oS (by omega))).2.symm | exact (a8 (oT (by omega))).1.symm | exact (a8 (oT (by omega))).2.symm | exact (a8 (ca (cy hb))).1.symm | exact (a8 (ca (cy hb))).2.symm | exact (a8 (ca (cz (by simpa using hc43)))).1.symm | exact (a8 (ca (cz (by simpa using hc43)))).2.symm | exact (a8 (iY (i := i) (by omega) (by omega))).1.symm | exact (a8 (iY (i := i) (by omega) (by omega))).2.symm | exact (dg hl2 hxl hok hin).1.symm | exact (dg hl2 hxl hok hin).2.symm)
end Go.Proofs.YtifoecfajmnjjaaGreat
