/-
  Package bits: the tables of operators; Width, Apply.
-/
import Derived.Test.YtgmpoenfoacofaaGreatQVbB
namespace Go.Proofs.YtgmpoenfoacofaaGreat
open Go.RowKit
set_option linter.unusedVariables false
set_option linter.unusedSimpArgs false
abbrev de : au := (.var 233 [(i6 0),(.v .nilf),(.v .nilf)])
abbrev aP (op : Int) : D := (i6 (bv op))
abbrev bZ : D := (.ptr 1 0 0 0)
abbrev b9 : D := (.ptr 2 0 0 0)
set_option maxRecDepth 100000
def dV : List (Int × Value) := [(2,.agg #[.int .i64 1,.func (.func 127) #[] #[],.func (.func 128) #[] #[]]),(3,.agg #[.int .i64 2,.func (.func 130) #[] #[],.func (.func 131) #[] #[]]),(4,.agg #[.int .i64 2,.func (.func 130) #[] #[],.func (.func 132) #[] #[]]),(5,.agg #[.int .i64 2,.func (.func 130) #[] #[],.func (.func 133) #[] #[]]),(6,.agg #[.int .i64 2,.func (.func 130) #[] #[],.func (.func 134) #[] #[]]),(7,.agg #[.int .i64 2,.func (.func 130) #[] #[],.func (.func 135) #[] #[]]),(8,.agg #[.int .i64 2,.func (.func 136) #[] #[],.func (.func 137) #[] #[]]),(9,.agg #[.int .i64 2,.func (.func 136) #[] #[],.func (.func 139) #[] #[]])]
set_option maxHeartbeats 800000 in
theorem uA (w : World) : Calls Tryz.prog 123 #[] w (fun e w' => ∃ arr : Array MapEntry,e = .returned (.map (some w.heap.size))∧w' = w.alloc (.map arr 8)∧arr.toList.map (fun e => (e.key,e.val)) = dV.map (fun e => (Value.int .i64 e.1,e.2))) := by
  go_enter Tryz.func123,Tryz.ntmps123
  go_wp2_with (first | (rw [pm]) | (rw [rc Tryz.underlying237 Tryz.underlying3 (by rfl)]))
  go_ret
  exact ⟨_,rfl,rfl,rfl⟩
abbrev uB : Ct := ⟨123,[],false,.v (.mp dV)⟩
theorem kA : CC uB := af.of_map uA
def en : List (Int × Value) := [(1,.agg #[.int .i64 0,.func (.func 140) #[] #[],.func (.func 141) #[] #[]]),(10,.agg #[.int .i64 3,.func (.func 142) #[] #[],.func (.func 143) #[] #[]]),(11,.agg #[.int .i64 2,.func (.func 144) #[] #[],.func (.func 145) #[] #[]]),(12,.agg #[.int .i64 1,.func (.func 146) #[] #[],.func (.func 147) #[] #[]]),(13,.agg #[.int .i64 1,.func (.func 148) #[] #[],.func (.func 149) #[] #[]])]
set_option maxHeartbeats 800000 in
theorem uC (w : World) : Calls Tryz.prog 124 #[] w (fun e w' => ∃ arr : Array MapEntry,e = .returned (.map (some w.heap.size))∧w' = w.alloc (.map arr 5)∧arr.toList.map (fun e => (e.key,e.val)) = en.map (fun e => (Value.int .i64 e.1,e.2))) := by
  go_enter Tryz.func124,Tryz.ntmps124
  go_wp2_with (first | (rw [pm]) | (rw [rc Tryz.underlying237 Tryz.underlying3 (by rfl)]))
  go_ret
  exact ⟨_,rfl,rfl,rfl⟩
abbrev xo : Ct := ⟨124,[],false,.v (.mp en)⟩
theorem ow : CC xo := af.of_map uC
def c5 (op : Int) : Nat :=
  if op = 1 then 140 else
  if op = 2 then 127 else
  if op = 3 then 130 else
  if op = 4 then 130 else
  if op = 5 then 130 else
  if op = 6 then 130 else
  if op = 7 then 130 else
  if op = 8 then 136 else
  if op = 9 then 136 else
  if op = 10 then 142 else
  if op = 11 then 144 else
  if op = 12 then 146 else
  if op = 13 then 148 else 0
def c8 (op : Int) : Nat :=
  if op = 1 then 141 else
  if op = 2 then 128 else
  if op = 3 then 131 else
  if op = 4 then 132 else
  if op = 5 then 133 else
  if op = 6 then 134 else
  if op = 7 then 135 else
  if op = 8 then 137 else
  if op = 9 then 139 else
  if op = 10 then 143 else
  if op = 11 then 145 else
  if op = 12 then 147 else
  if op = 13 then 149 else 0
abbrev cW (op : Int) (ws xs : List Int) (k w : Int) : Ct := ⟨c5 op,[(.agg [(LI ws),(LI xs),(i6 k),(i6 w)])],false,i6 (bi op ws k w)⟩
abbrev cV (op : Int) (ws xs : List Int) (k w : Int) : Ct := ⟨c8 op,[(.agg [(LI ws),(LI xs),(i6 k),(i6 w)])],false,i6 (lg op ws xs k w)⟩
theorem rg {op : Int} {ws : List Int} (h : vZ op ws = true) : op = 1 ∨ op = 2 ∨ op = 3 ∨ op = 4 ∨ op = 5 ∨ op = 6 ∨ op = 7 ∨ op = 8 ∨ op = 9 ∨ op = 10 ∨ op = 11 ∨ op = 12 ∨ op = 13 := by
  have h1 := (uw h).1
  by_cases hr : op < 1 ∨ 13 < op
  · have : bv op = -1 := by unfold bv; rw [if_neg (by omega),if_neg (by omega),if_neg (by omega),if_neg (by omega)]
    omega
  · omega
theorem ES (op : Int) (ws xs : List Int) (k w : Int) (h : vZ op ws = true) : GC (cW op ws xs k w) := by
  obtain ⟨h1,hf⟩ := uw h
  rcases rg h with rfl | rfl | rfl | rfl | rfl | rfl | rfl | rfl | rfl | rfl | rfl | rfl | rfl
  · (have hl : (ws.length : Int) = 0 := h1); exact ⟨by kernel_rfl,zS ws xs k w (by omega) hf⟩
  · (have hl : (ws.length : Int) = 1 := h1); exact ⟨by kernel_rfl,Bw ws xs k w (by omega) hf⟩
  · (have hl : (ws.length : Int) = 2 := h1); exact ⟨by kernel_rfl,ij ws xs k w (by omega) hf⟩
  · (have hl : (ws.length : Int) = 2 := h1); exact ⟨by kernel_rfl,ij ws xs k w (by omega) hf⟩
  · (have hl : (ws.length : Int) = 2 := h1); exact ⟨by kernel_rfl,ij ws xs k w (by omega) hf⟩
  · (have hl : (ws.length : Int) = 2 := h1); exact ⟨by kernel_rfl,ij ws xs k w (by omega) hf⟩
  · (have hl : (ws.length : Int) = 2 := h1); exact ⟨by kernel_rfl,ij ws xs k w (by omega) hf⟩
  · (have hl : (ws.length : Int) = 2 := h1); exact ⟨by kernel_rfl,Bx ws xs k w (by omega) hf⟩
  · (have hl : (ws.length : Int) = 2 := h1); exact ⟨by kernel_rfl,Bx ws xs k w (by omega) hf⟩
  · (have hl : (ws.length : Int) = 3 := h1); exact ⟨by kernel_rfl,DC ws xs k w (by omega) hf⟩
  · (have hl : (ws.length : Int) = 2 := h1); exact ⟨by kernel_rfl,DD ws xs k w (by omega) hf⟩
  · (have hl : (ws.length : Int) = 1 := h1); exact ⟨by kernel_rfl,zT ws xs k w (by omega) hf⟩
  · (have hl : (ws.length : Int) = 1 := h1); exact ⟨by kernel_rfl,DE ws xs k w (by omega) hf⟩
theorem G5 (op : Int) (ws xs : List Int) (k w : Int) (h : lf op ws k w = true) (hx : xs.length = ws.length) (hin : zQ ws xs = true) : GC (cV op ws xs k w) := by
  obtain ⟨h1,hf,h3⟩ := ou h
  have hb : vZ op ws = true := by unfold vZ; rw [decide_eq_true h1,hf]; rfl
  rcases rg hb with rfl | rfl | rfl | rfl | rfl | rfl | rfl | rfl | rfl | rfl | rfl | rfl | rfl
  · (have hl : (ws.length : Int) = 0 := h1); exact ⟨by kernel_rfl,Bz ws xs k w ⟨by omega,hf,hx,hin⟩⟩
  · (have hl : (ws.length : Int) = 1 := h1); exact ⟨by kernel_rfl,Fs ws xs k w ⟨by omega,hf,hx,hin⟩⟩
  · (have hl : (ws.length : Int) = 2 := h1); exact ⟨by kernel_rfl,Ft ws xs k w ⟨by omega,hf,hx,hin⟩⟩
  · (have hl : (ws.length : Int) = 2 := h1); exact ⟨by kernel_rfl,G2 ws xs k w ⟨by omega,hf,hx,hin⟩⟩
  · (have hl : (ws.length : Int) = 2 := h1); exact ⟨by kernel_rfl,Fu ws xs k w ⟨by omega,hf,hx,hin⟩⟩
  · (have hl : (ws.length : Int) = 2 := h1); exact ⟨by kernel_rfl,Fv ws xs k w ⟨by omega,hf,hx,hin⟩⟩
  · (have hl : (ws.length : Int) = 2 := h1); exact ⟨by kernel_rfl,Fw ws xs k w ⟨by omega,hf,hx,hin⟩⟩
  · (have hl : (ws.length : Int) = 2 := h1); exact ⟨by kernel_rfl,G3 ws xs k w ⟨by omega,hf,hx,hin⟩⟩
  · (have hl : (ws.length : Int) = 2 := h1); exact ⟨by kernel_rfl,G4 ws xs k w ⟨by omega,hf,hx,hin⟩⟩
  · (have hl : (ws.length : Int) = 3 := h1); exact ⟨by kernel_rfl,Fy ws xs k w ⟨by omega,hf,hx,hin⟩ (yD h)⟩
  · (have hl : (ws.length : Int) = 2 := h1); exact ⟨by kernel_rfl,FA ws xs k w ⟨by omega,hf,hx,hin⟩⟩
  · (have hl : (ws.length : Int) = 1 := h1); exact ⟨by kernel_rfl,BA ws xs k w ⟨by omega,hf,hx,hin⟩ (yE h)⟩
  · (have hl : (ws.length : Int) = 1 := h1); exact ⟨by kernel_rfl,Fx ws xs k w ⟨by omega,hf,hx,hin⟩⟩
theorem rh {op : Int} (h : op = 2 ∨ op = 3 ∨ op = 4 ∨ op = 5 ∨ op = 6 ∨ op = 7 ∨ op = 8 ∨ op = 9) : ∃ (j : Nat) (e : Int × Value),dV[j]? = some e∧op = e.1∧(∀ e' ∈ dV.take j,op ≠ e'.1)∧sj (D.ofVal e.2) (.agg [(aP op),(.fn (.func (c5 op)) [] []),(.fn (.func (c8 op)) [] [])]) := by
  rcases h with rfl | rfl | rfl | rfl | rfl | rfl | rfl | rfl
  · exact ⟨0,_,rfl,rfl,by decide,⟨rfl,rfl,rfl,oK⟩⟩
  · exact ⟨1,_,rfl,rfl,by decide,⟨rfl,rfl,rfl,oK⟩⟩
  · exact ⟨2,_,rfl,rfl,by decide,⟨rfl,rfl,rfl,oK⟩⟩
  · exact ⟨3,_,rfl,rfl,by decide,⟨rfl,rfl,rfl,oK⟩⟩
  · exact ⟨4,_,rfl,rfl,by decide,⟨rfl,rfl,rfl,oK⟩⟩
  · exact ⟨5,_,rfl,rfl,by decide,⟨rfl,rfl,rfl,oK⟩⟩
  · exact ⟨6,_,rfl,rfl,by decide,⟨rfl,rfl,rfl,oK⟩⟩
  · exact ⟨7,_,rfl,rfl,by decide,⟨rfl,rfl,rfl,oK⟩⟩
theorem ri {op : Int} (h : ¬(op = 2 ∨ op = 3 ∨ op = 4 ∨ op = 5 ∨ op = 6 ∨ op = 7 ∨ op = 8 ∨ op = 9)) : ∀ e' ∈ dV,op ≠ e'.1 := by
  intro e' he'
  simp only [dV,List.mem_cons,List.not_mem_nil,or_false] at he'
  rcases he' with rfl | rfl | rfl | rfl | rfl | rfl | rfl | rfl <;> simp only [ne_eq] <;> omega
theorem rj {op : Int} (h : op = 1 ∨ op = 10 ∨ op = 11 ∨ op = 12 ∨ op = 13) : ∃ (j : Nat) (e : Int × Value),en[j]? = some e∧op = e.1∧(∀ e' ∈ en.take j,op ≠ e'.1)∧sj (D.ofVal e.2) (.agg [(aP op),(.fn (.func (c5 op)) [] []),(.fn (.func (c8 op)) [] [])]) := by
  rcases h with rfl | rfl | rfl | rfl | rfl
  · exact ⟨0,_,rfl,rfl,by decide,⟨rfl,rfl,rfl,oK⟩⟩
  · exact ⟨1,_,rfl,rfl,by decide,⟨rfl,rfl,rfl,oK⟩⟩
  · exact ⟨2,_,rfl,rfl,by decide,⟨rfl,rfl,rfl,oK⟩⟩
  · exact ⟨3,_,rfl,rfl,by decide,⟨rfl,rfl,rfl,oK⟩⟩
  · exact ⟨4,_,rfl,rfl,by decide,⟨rfl,rfl,rfl,oK⟩⟩
theorem xp {op : Int} (h : ¬(op = 1 ∨ op = 10 ∨ op = 11 ∨ op = 12 ∨ op = 13)) : ∀ e' ∈ en,op ≠ e'.1 := by
  intro e' he'
  simp only [en,List.mem_cons,List.not_mem_nil,or_false] at he'
  rcases he' with rfl | rfl | rfl | rfl | rfl <;> simp only [ne_eq] <;> omega
abbrev zV (op : Int) (ws xs : List Int) (k w : Int) : Ct := ⟨121,[(i6 op),(.agg [(LI ws),(LI xs),(i6 k),(i6 w)])],true,(.tup [(.agg [(aP op),(.fn (.func (c5 op)) [] []),(.fn (.func (c8 op)) [] [])]),(i6 (bi op ws k w)),(dB (av (bi op ws k w)))])⟩
def jT (op : Int) (ws : List Int) (xs : List Int) (k : Int) (w : Int) : St := ⟨[(4,bZ),(7,b9),(9,(i6 (bi op ws k w)))],[(.var 230 [(LI ws),(LI xs),(i6 k),(i6 w)]),de,(.var 233 [(aP op),(.fn (.func (c5 op)) [] []),(.fn (.func (c8 op)) [] [])])]⟩
def po (op : Int) (ws : List Int) (xs : List Int) (k : Int) (w : Int) : St := ⟨[(4,bZ),(7,b9),(9,(i6 (bi op ws k w))),(44,(.agg [(aP op),(.fn (.func (c5 op)) [] []),(.fn (.func (c8 op)) [] [])]))],[(.var 230 [(LI ws),(LI xs),(i6 k),(i6 w)]),de,(.var 233 [(aP op),(.fn (.func (c5 op)) [] []),(.fn (.func (c8 op)) [] [])])]⟩
def pp (op : Int) (ws : List Int) (xs : List Int) (k : Int) (w : Int) : St := ⟨[(4,bZ),(7,b9),(9,(i6 (bi op ws k w))),(45,(i6 (bi op ws k w)))],[(.var 230 [(LI ws),(LI xs),(i6 k),(i6 w)]),de,(.var 233 [(aP op),(.fn (.func (c5 op)) [] []),(.fn (.func (c8 op)) [] [])])]⟩
def pu (op : Int) (ws : List Int) (xs : List Int) (k : Int) (w : Int) : St := ⟨[(4,bZ),(7,b9),(9,(i6 (bi op ws k w))),(46,(i6 (bi op ws k w)))],[(.var 230 [(LI ws),(LI xs),(i6 k),(i6 w)]),de,(.var 233 [(aP op),(.fn (.func (c5 op)) [] []),(.fn (.func (c8 op)) [] [])])]⟩
def jU (op : Int) (ws : List Int) (xs : List Int) (k : Int) (w : Int) : St := ⟨[(4,bZ),(7,b9),(9,(i6 (bi op ws k w))),(44,(.agg [(aP op),(.fn (.func (c5 op)) [] []),(.fn (.func (c8 op)) [] [])])),(45,(i6 (bi op ws k w)))],[(.var 230 [(LI ws),(LI xs),(i6 k),(i6 w)]),de,(.var 233 [(aP op),(.fn (.func (c5 op)) [] []),(.fn (.func (c8 op)) [] [])])]⟩
def jV (op : Int) (ws : List Int) (xs : List Int) (k : Int) (w : Int) : St := ⟨[(4,bZ),(7,b9),(9,(i6 (bi op ws k w))),(44,(.agg [(aP op),(.fn (.func (c5 op)) [] []),(.fn (.func (c8 op)) [] [])])),(46,(i6 (bi op ws k w)))],[(.var 230 [(LI ws),(LI xs),(i6 k),(i6 w)]),de,(.var 233 [(aP op),(.fn (.func (c5 op)) [] []),(.fn (.func (c8 op)) [] [])])]⟩
def jW (op : Int) (ws : List Int) (xs : List Int) (k : Int) (w : Int) : St := ⟨[(4,bZ),(7,b9),(9,(i6 (bi op ws k w))),(45,(i6 (bi op ws k w))),(46,(i6 (bi op ws k w)))],[(.var 230 [(LI ws),(LI xs),(i6 k),(i6 w)]),de,(.var 233 [(aP op),(.fn (.func (c5 op)) [] []),(.fn (.func (c8 op)) [] [])])]⟩
def px (op : Int) (ws : List Int) (xs : List Int) (k : Int) (w : Int) : St := ⟨[(4,bZ),(7,b9),(9,(i6 (bi op ws k w))),(46,(i6 (bi op ws k w))),(47,(dB (av (bi op ws k w))))],[(.var 230 [(LI ws),(LI xs),(i6 k),(i6 w)]),de,(.var 233 [(aP op),(.fn (.func (c5 op)) [] []),(.fn (.func (c8 op)) [] [])])]⟩
def gI (op : Int) (ws : List Int) (xs : List Int) (k : Int) (w : Int) : St := ⟨[(4,bZ),(7,b9),(9,(i6 (bi op ws k w))),(44,(.agg [(aP op),(.fn (.func (c5 op)) [] []),(.fn (.func (c8 op)) [] [])])),(45,(i6 (bi op ws k w))),(46,(i6 (bi op ws k w)))],[(.var 230 [(LI ws),(LI xs),(i6 k),(i6 w)]),de,(.var 233 [(aP op),(.fn (.func (c5 op)) [] []),(.fn (.func (c8 op)) [] [])])]⟩
def jX (op : Int) (ws : List Int) (xs : List Int) (k : Int) (w : Int) : St := ⟨[(4,bZ),(7,b9),(9,(i6 (bi op ws k w))),(44,(.agg [(aP op),(.fn (.func (c5 op)) [] []),(.fn (.func (c8 op)) [] [])])),(46,(i6 (bi op ws k w))),(47,(dB (av (bi op ws k w))))],[(.var 230 [(LI ws),(LI xs),(i6 k),(i6 w)]),de,(.var 233 [(aP op),(.fn (.func (c5 op)) [] []),(.fn (.func (c8 op)) [] [])])]⟩
def iW (op : Int) (ws : List Int) (xs : List Int) (k : Int) (w : Int) : St := ⟨[(4,bZ),(7,b9),(9,(i6 (bi op ws k w))),(45,(i6 (bi op ws k w))),(46,(i6 (bi op ws k w))),(47,(dB (av (bi op ws k w))))],[(.var 230 [(LI ws),(LI xs),(i6 k),(i6 w)]),de,(.var 233 [(aP op),(.fn (.func (c5 op)) [] []),(.fn (.func (c8 op)) [] [])])]⟩
def fx (op : Int) (ws : List Int) (xs : List Int) (k : Int) (w : Int) : St := ⟨[(4,bZ),(7,b9),(9,(i6 (bi op ws k w))),(44,(.agg [(aP op),(.fn (.func (c5 op)) [] []),(.fn (.func (c8 op)) [] [])])),(45,(i6 (bi op ws k w))),(46,(i6 (bi op ws k w))),(47,(dB (av (bi op ws k w))))],[(.var 230 [(LI ws),(LI xs),(i6 k),(i6 w)]),de,(.var 233 [(aP op),(.fn (.func (c5 op)) [] []),(.fn (.func (c8 op)) [] [])])]⟩
def mO (op : Int) (ws : List Int) (xs : List Int) (k : Int) (w : Int) : St := ⟨[(4,bZ),(7,b9),(9,(i6 (bi op ws k w))),(44,(.agg [(aP op),(.fn (.func (c5 op)) [] []),(.fn (.func (c8 op)) [] [])])),(46,(i6 (bi op ws k w))),(47,(dB (av (bi op ws k w))))],[(.var 230 [(LI ws),(LI xs),(i6 k),(i6 w)]),(.var 233 [(aP op),(.fn (.func (c5 op)) [] []),(.fn (.func (c8 op)) [] [])]),(.var 233 [(aP op),(.fn (.func (c5 op)) [] []),(.fn (.func (c8 op)) [] [])])]⟩
def iX (op : Int) (ws : List Int) (xs : List Int) (k : Int) (w : Int) : St := ⟨[(4,bZ),(7,b9),(9,(i6 (bi op ws k w))),(44,(.agg [(aP op),(.fn (.func (c5 op)) [] []),(.fn (.func (c8 op)) [] [])])),(45,(i6 (bi op ws k w))),(46,(i6 (bi op ws k w))),(47,(dB (av (bi op ws k w))))],[(.var 230 [(LI ws),(LI xs),(i6 k),(i6 w)]),(.var 233 [(aP op),(.fn (.func (c5 op)) [] []),(.fn (.func (c8 op)) [] [])]),(.var 233 [(aP op),(.fn (.func (c5 op)) [] []),(.fn (.func (c8 op)) [] [])])]⟩
def mP (op : Int) (ws : List Int) (xs : List Int) (k : Int) (w : Int) : St := ⟨[(4,bZ),(5,(i6 (bi op ws k w))),(7,b9),(9,(i6 (bi op ws k w))),(44,(.agg [(aP op),(.fn (.func (c5 op)) [] []),(.fn (.func (c8 op)) [] [])])),(45,(i6 (bi op ws k w))),(46,(i6 (bi op ws k w))),(47,(dB (av (bi op ws k w))))],[(.var 230 [(LI ws),(LI xs),(i6 k),(i6 w)]),(.var 233 [(aP op),(.fn (.func (c5 op)) [] []),(.fn (.func (c8 op)) [] [])]),(.var 233 [(aP op),(.fn (.func (c5 op)) [] []),(.fn (.func (c8 op)) [] [])])]⟩
def mQ (op : Int) (ws : List Int) (xs : List Int) (k : Int) (w : Int) : St := ⟨[(4,bZ),(5,(i6 (bi op ws k w))),(6,(dB (av (bi op ws k w))))],[(.var 230 [(LI ws),(LI xs),(i6 k),(i6 w)]),(.var 233 [(aP op),(.fn (.func (c5 op)) [] []),(.fn (.func (c8 op)) [] [])]),(.var 233 [(aP op),(.fn (.func (c5 op)) [] []),(.fn (.func (c8 op)) [] [])])]⟩
def iY (op : Int) (ws : List Int) (xs : List Int) (k : Int) (w : Int) : St := ⟨[(4,bZ),(7,b9),(9,(i6 (bi op ws k w)))],[(.var 230 [(LI ws),(LI xs),(i6 k),(i6 w)]),de,(.var 233 [(aP op),(.fn (.func (c5 op)) [] []),(.fn (.func (c8 op)) [] [])])]⟩
def mR (op : Int) (ws : List Int) (xs : List Int) (k : Int) (w : Int) : St := ⟨[(4,bZ),(7,b9),(9,(i6 (bi op ws k w))),(44,(.agg [(aP op),(.fn (.func (c5 op)) [] []),(.fn (.func (c8 op)) [] [])]))],[(.var 230 [(LI ws),(LI xs),(i6 k),(i6 w)]),de,(.var 233 [(aP op),(.fn (.func (c5 op)) [] []),(.fn (.func (c8 op)) [] [])])]⟩
def mS (op : Int) (ws : List Int) (xs : List Int) (k : Int) (w : Int) : St := ⟨[(4,bZ),(7,b9),(9,(i6 (bi op ws k w))),(45,(i6 (bi op ws k w)))],[(.var 230 [(LI ws),(LI xs),(i6 k),(i6 w)]),de,(.var 233 [(aP op),(.fn (.func (c5 op)) [] []),(.fn (.func (c8 op)) [] [])])]⟩
def mU (op : Int) (ws : List Int) (xs : List Int) (k : Int) (w : Int) : St := ⟨[(4,bZ),(7,b9),(9,(i6 (bi op ws k w))),(46,(i6 (bi op ws k w)))],[(.var 230 [(LI ws),(LI xs),(i6 k),(i6 w)]),de,(.var 233 [(aP op),(.fn (.func (c5 op)) [] []),(.fn (.func (c8 op)) [] [])])]⟩
def iZ (op : Int) (ws : List Int) (xs : List Int) (k : Int) (w : Int) : St := ⟨[(4,bZ),(7,b9),(9,(i6 (bi op ws k w))),(44,(.agg [(aP op),(.fn (.func (c5 op)) [] []),(.fn (.func (c8 op)) [] [])])),(45,(i6 (bi op ws k w)))],[(.var 230 [(LI ws),(LI xs),(i6 k),(i6 w)]),de,(.var 233 [(aP op),(.fn (.func (c5 op)) [] []),(.fn (.func (c8 op)) [] [])])]⟩
def i1 (op : Int) (ws : List Int) (xs : List Int) (k : Int) (w : Int) : St := ⟨[(4,bZ),(7,b9),(9,(i6 (bi op ws k w))),(44,(.agg [(aP op),(.fn (.func (c5 op)) [] []),(.fn (.func (c8 op)) [] [])])),(46,(i6 (bi op ws k w)))],[(.var 230 [(LI ws),(LI xs),(i6 k),(i6 w)]),de,(.var 233 [(aP op),(.fn (.func (c5 op)) [] []),(.fn (.func (c8 op)) [] [])])]⟩
def i2 (op : Int) (ws : List Int) (xs : List Int) (k : Int) (w : Int) : St := ⟨[(4,bZ),(7,b9),(9,(i6 (bi op ws k w))),(45,(i6 (bi op ws k w))),(46,(i6 (bi op ws k w)))],[(.var 230 [(LI ws),(LI xs),(i6 k),(i6 w)]),de,(.var 233 [(aP op),(.fn (.func (c5 op)) [] []),(.fn (.func (c8 op)) [] [])])]⟩
def mV (op : Int) (ws : List Int) (xs : List Int) (k : Int) (w : Int) : St := ⟨[(4,bZ),(7,b9),(9,(i6 (bi op ws k w))),(46,(i6 (bi op ws k w))),(47,(dB (av (bi op ws k w))))],[(.var 230 [(LI ws),(LI xs),(i6 k),(i6 w)]),de,(.var 233 [(aP op),(.fn (.func (c5 op)) [] []),(.fn (.func (c8 op)) [] [])])]⟩
def fy (op : Int) (ws : List Int) (xs : List Int) (k : Int) (w : Int) : St := ⟨[(4,bZ),(7,b9),(9,(i6 (bi op ws k w))),(44,(.agg [(aP op),(.fn (.func (c5 op)) [] []),(.fn (.func (c8 op)) [] [])])),(45,(i6 (bi op ws k w))),(46,(i6 (bi op ws k w)))],[(.var 230 [(LI ws),(LI xs),(i6 k),(i6 w)]),de,(.var 233 [(aP op),(.fn (.func (c5 op)) [] []),(.fn (.func (c8 op)) [] [])])]⟩
def i3 (op : Int) (ws : List Int) (xs : List Int) (k : Int) (w : Int) : St := ⟨[(4,bZ),(7,b9),(9,(i6 (bi op ws k w))),(44,(.agg [(aP op),(.fn (.func (c5 op)) [] []),(.fn (.func (c8 op)) [] [])])),(46,(i6 (bi op ws k w))),(47,(dB (av (bi op ws k w))))],[(.var 230 [(LI ws),(LI xs),(i6 k),(i6 w)]),de,(.var 233 [(aP op),(.fn (.func (c5 op)) [] []),(.fn (.func (c8 op)) [] [])])]⟩
def gW (op : Int) (ws : List Int) (xs : List Int) (k : Int) (w : Int) : St := ⟨[(4,bZ),(7,b9),(9,(i6 (bi op ws k w))),(45,(i6 (bi op ws k w))),(46,(i6 (bi op ws k w))),(47,(dB (av (bi op ws k w))))],[(.var 230 [(LI ws),(LI xs),(i6 k),(i6 w)]),de,(.var 233 [(aP op),(.fn (.func (c5 op)) [] []),(.fn (.func (c8 op)) [] [])])]⟩
def eR (op : Int) (ws : List Int) (xs : List Int) (k : Int) (w : Int) : St := ⟨[(4,bZ),(7,b9),(9,(i6 (bi op ws k w))),(44,(.agg [(aP op),(.fn (.func (c5 op)) [] []),(.fn (.func (c8 op)) [] [])])),(45,(i6 (bi op ws k w))),(46,(i6 (bi op ws k w))),(47,(dB (av (bi op ws k w))))],[(.var 230 [(LI ws),(LI xs),(i6 k),(i6 w)]),de,(.var 233 [(aP op),(.fn (.func (c5 op)) [] []),(.fn (.func (c8 op)) [] [])])]⟩
def lC (op : Int) (ws : List Int) (xs : List Int) (k : Int) (w : Int) : St := ⟨[(4,bZ),(7,b9),(9,(i6 (bi op ws k w))),(44,(.agg [(aP op),(.fn (.func (c5 op)) [] []),(.fn (.func (c8 op)) [] [])])),(46,(i6 (bi op ws k w))),(47,(dB (av (bi op ws k w))))],[(.var 230 [(LI ws),(LI xs),(i6 k),(i6 w)]),(.var 233 [(aP op),(.fn (.func (c5 op)) [] []),(.fn (.func (c8 op)) [] [])]),(.var 233 [(aP op),(.fn (.func (c5 op)) [] []),(.fn (.func (c8 op)) [] [])])]⟩
def gX (op : Int) (ws : List Int) (xs : List Int) (k : Int) (w : Int) : St := ⟨[(4,bZ),(7,b9),(9,(i6 (bi op ws k w))),(44,(.agg [(aP op),(.fn (.func (c5 op)) [] []),(.fn (.func (c8 op)) [] [])])),(45,(i6 (bi op ws k w))),(46,(i6 (bi op ws k w))),(47,(dB (av (bi op ws k w))))],[(.var 230 [(LI ws),(LI xs),(i6 k),(i6 w)]),(.var 233 [(aP op),(.fn (.func (c5 op)) [] []),(.fn (.func (c8 op)) [] [])]),(.var 233 [(aP op),(.fn (.func (c5 op)) [] []),(.fn (.func (c8 op)) [] [])])]⟩
def lD (op : Int) (ws : List Int) (xs : List Int) (k : Int) (w : Int) : St := ⟨[(4,bZ),(5,(i6 (bi op ws k w))),(7,b9),(9,(i6 (bi op ws k w))),(44,(.agg [(aP op),(.fn (.func (c5 op)) [] []),(.fn (.func (c8 op)) [] [])])),(45,(i6 (bi op ws k w))),(46,(i6 (bi op ws k w))),(47,(dB (av (bi op ws k w))))],[(.var 230 [(LI ws),(LI xs),(i6 k),(i6 w)]),(.var 233 [(aP op),(.fn (.func (c5 op)) [] []),(.fn (.func (c8 op)) [] [])]),(.var 233 [(aP op),(.fn (.func (c5 op)) [] []),(.fn (.func (c8 op)) [] [])])]⟩
def lF (op : Int) (ws : List Int) (xs : List Int) (k : Int) (w : Int) : St := ⟨[(4,bZ),(5,(i6 (bi op ws k w))),(6,(dB (av (bi op ws k w))))],[(.var 230 [(LI ws),(LI xs),(i6 k),(i6 w)]),(.var 233 [(aP op),(.fn (.func (c5 op)) [] []),(.fn (.func (c8 op)) [] [])]),(.var 233 [(aP op),(.fn (.func (c5 op)) [] []),(.fn (.func (c8 op)) [] [])])]⟩
theorem tp (op : Int) (ws xs : List Int) (k w : Int) (hw : ws.length ≤ 9223372036854775807) (h : vZ op ws = true) : CC (zV op ws xs k w) := by
 obtain ⟨h1,h2⟩ := uw h
 have hop := rg h
 refine af.vc (V := TT 4 (CS (op = 2 ∨ op = 3 ∨ op = 4 ∨ op = 5 ∨ op = 6 ∨ op = 7 ∨ op = 8 ∨ op = 9) (CC uB∧TT 1 ((∃ (j : Nat) (e : Int × Value),dV[j]? = some e∧op = e.1∧(∀ e' ∈ dV.take j,op ≠ e'.1)∧sj (D.ofVal e.2) (.agg [(aP op),(.fn (.func (c5 op)) [] []),(.fn (.func (c8 op)) [] [])]))∧TT 18 ((True∧(!decide ((ws.length : Int) = (bv op))) = false)∧TT 2 (CC (DB ws)∧TT 1 ((!(ws.all av)) = false∧TT 3 (GC (cW op ws xs k w)∧TT 1 ((jT op ws xs k w) = (jT op ws xs k w)∧(((sE (po op ws xs k w) (True))∧(sE (pp op ws xs k w) (True))∧(sE (pu op ws xs k w) (True))∧True)∧((sE (jU op ws xs k w) (True))∧(sE (jV op ws xs k w) (True))∧True)∧((sE (jU op ws xs k w) (True))∧(sE (jW op ws xs k w) (True))∧True)∧((sE (jV op ws xs k w) (True))∧(sE (jW op ws xs k w) (True))∧(sE (px op ws xs k w) (CC (fh (bi op ws k w))))∧True)∧((sE (gI op ws xs k w) (True))∧True)∧((sE (gI op ws xs k w) (True))∧(sE (jX op ws xs k w) (CC (fh (bi op ws k w))))∧True)∧((sE (gI op ws xs k w) (True))∧(sE (iW op ws xs k w) (CC (fh (bi op ws k w))))∧True)∧((sE (jX op ws xs k w) (True))∧(sE (iW op ws xs k w) (True))∧True)∧((sE (fx op ws xs k w) (CC (fh (bi op ws k w))))∧True)∧((sE (fx op ws xs k w) (True))∧(sE (mO op ws xs k w) (True))∧True)∧((sE (fx op ws xs k w) (True))∧True)∧((sE (iX op ws xs k w) (True))∧True)∧((sE (iX op ws xs k w) (True))∧True)∧((sE (mP op ws xs k w) (True))∧True)∧((sE (mQ op ws xs k w) (True))∧True)∧True∧True)∧TT 3 (((bv op) = (bv op)∧((.fn (.func (c5 op)) [] []) : D) = (.fn (.func (c5 op)) [] [])∧((.fn (.func (c8 op)) [] []) : D) = (.fn (.func (c8 op)) [] [])∧True)∧(bi op ws k w) = (bi op ws k w)∧(av (bi op ws k w)) = (av (bi op ws k w))∧True)))))))) (CC uB∧TT 1 ((∀ e' ∈ dV,op ≠ e'.1)∧TT 8 (CC xo∧TT 1 ((∃ (j : Nat) (e : Int × Value),en[j]? = some e∧op = e.1∧(∀ e' ∈ en.take j,op ≠ e'.1)∧sj (D.ofVal e.2) (.agg [(aP op),(.fn (.func (c5 op)) [] []),(.fn (.func (c8 op)) [] [])]))∧TT 15 ((True∧(!decide ((ws.length : Int) = (bv op))) = false)∧TT 2 (CC (DB ws)∧TT 1 ((!(ws.all av)) = false∧TT 3 (GC (cW op ws xs k w)∧TT 1 ((iY op ws xs k w) = (iY op ws xs k w)∧(((sE (mR op ws xs k w) (True))∧(sE (mS op ws xs k w) (True))∧(sE (mU op ws xs k w) (True))∧True)∧((sE (iZ op ws xs k w) (True))∧(sE (i1 op ws xs k w) (True))∧True)∧((sE (iZ op ws xs k w) (True))∧(sE (i2 op ws xs k w) (True))∧True)∧((sE (i1 op ws xs k w) (True))∧(sE (i2 op ws xs k w) (True))∧(sE (mV op ws xs k w) (CC (fh (bi op ws k w))))∧True)∧((sE (fy op ws xs k w) (True))∧True)∧((sE (fy op ws xs k w) (True))∧(sE (i3 op ws xs k w) (CC (fh (bi op ws k w))))∧True)∧((sE (fy op ws xs k w) (True))∧(sE (gW op ws xs k w) (CC (fh (bi op ws k w))))∧True)∧((sE (i3 op ws xs k w) (True))∧(sE (gW op ws xs k w) (True))∧True)∧((sE (eR op ws xs k w) (CC (fh (bi op ws k w))))∧True)∧((sE (eR op ws xs k w) (True))∧(sE (lC op ws xs k w) (True))∧True)∧((sE (eR op ws xs k w) (True))∧True)∧((sE (gX op ws xs k w) (True))∧True)∧((sE (gX op ws xs k w) (True))∧True)∧((sE (lD op ws xs k w) (True))∧True)∧((sE (lF op ws xs k w) (True))∧True)∧True∧True)∧TT 3 (((bv op) = (bv op)∧((.fn (.func (c5 op)) [] []) : D) = (.fn (.func (c5 op)) [] [])∧((.fn (.func (c8 op)) [] []) : D) = (.fn (.func (c8 op)) [] [])∧True)∧(bi op ws k w) = (bi op ws k w)∧(av (bi op ws k w)) = (av (bi op ws k w))∧True)))))))))))) (.s 1 (op = 2 ∨ op = 3 ∨ op = 4 ∨ op = 5 ∨ op = 6 ∨ op = 7 ∨ op = 8 ∨ op = 9) (.w 1 [(0,uB.O),(2,.ent (.agg [(aP op),(.fn (.func (c5 op)) [] []),(.fn (.func (c8 op)) [] [])]))] <| .w 4 [(10,.val (dB false)),(13,(DB ws).O)] <| .u 38 (.w 6 [(3,.callg none false (i6 (bi op ws k w)))] <| .y 7 [(3,(fh (bi op ws k w)).O)] [((bm 7 0),(jT op ws xs k w)),((bm 7 1),(po op ws xs k w)),((bm 7 2),(pp op ws xs k w)),((bm 7 4),(pu op ws xs k w)),((bm 7 3),(jU op ws xs k w)),((bm 7 5),(jV op ws xs k w)),((bm 7 6),(jW op ws xs k w)),((bm 7 12),(px op ws xs k w)),((bm 7 7),(gI op ws xs k w)),((bm 7 13),(jX op ws xs k w)),((bm 7 14),(iW op ws xs k w)),((bm 7 15),(fx op ws xs k w)),((bm 7 29),(mO op ws xs k w)),((bm 7 31),(iX op ws xs k w)),((bm 7 63),(mP op ws xs k w)),((bm 7 127),(mQ op ws xs k w))] <| .e)) (.w 1 [(0,uB.O),(2,.idx none)] <| .w 3 [(0,xo.O),(2,.ent (.agg [(aP op),(.fn (.func (c5 op)) [] []),(.fn (.func (c8 op)) [] [])]))] <| .w 4 [(10,.val (dB false)),(13,(DB ws).O)] <| .u 38 (.w 6 [(3,.callg none false (i6 (bi op ws k w)))] <| .y 7 [(3,(fh (bi op ws k w)).O)] [((bm 7 0),(iY op ws xs k w)),((bm 7 1),(mR op ws xs k w)),((bm 7 2),(mS op ws xs k w)),((bm 7 4),(mU op ws xs k w)),((bm 7 3),(iZ op ws xs k w)),((bm 7 5),(i1 op ws xs k w)),((bm 7 6),(i2 op ws xs k w)),((bm 7 12),(mV op ws xs k w)),((bm 7 7),(fy op ws xs k w)),((bm 7 13),(i3 op ws xs k w)),((bm 7 14),(gW op ws xs k w)),((bm 7 15),(eR op ws xs k w)),((bm 7 29),(lC op ws xs k w)),((bm 7 31),(gX op ws xs k w)),((bm 7 63),(lD op ws xs k w)),((bm 7 127),(lF op ws xs k w))] <| .e))) Tryz.func121 rfl rfl rfl (by kernel_rfl) ?_
 refine tt ⟨fun hs0 => ?_,fun hs0 => ?_⟩
 · have hS := hs0
   exact ⟨kA,tt ⟨(rh hS),tt ⟨(nF h1),tt ⟨(gG ws hw),tt ⟨(HL h2),tt ⟨(ES op ws xs k w h),tt ⟨rfl,⟨⟨⟨⟨rfl,oK,oK⟩,⟨rfl,oK,oK⟩,⟨rfl,oK,oK⟩,oK⟩,⟨⟨rfl,oK,oK⟩,⟨rfl,oK,oK⟩,oK⟩,⟨⟨rfl,oK,oK⟩,⟨rfl,oK,oK⟩,oK⟩,⟨⟨rfl,oK,oK⟩,⟨rfl,oK,oK⟩,⟨rfl,(cI (bi op ws k w)),oK⟩,oK⟩,⟨⟨rfl,oK,oK⟩,oK⟩,⟨⟨rfl,oK,oK⟩,⟨rfl,(cI (bi op ws k w)),oK⟩,oK⟩,⟨⟨rfl,oK,oK⟩,⟨rfl,(cI (bi op ws k w)),oK⟩,oK⟩,⟨⟨rfl,oK,oK⟩,⟨rfl,oK,oK⟩,oK⟩,⟨⟨rfl,(cI (bi op ws k w)),oK⟩,oK⟩,⟨⟨rfl,oK,oK⟩,⟨rfl,oK,oK⟩,oK⟩,⟨⟨rfl,oK,oK⟩,oK⟩,⟨⟨rfl,oK,oK⟩,oK⟩,⟨⟨rfl,oK,oK⟩,oK⟩,⟨⟨rfl,oK,oK⟩,oK⟩,⟨⟨rfl,oK,oK⟩,oK⟩,oK,oK⟩,tt ⟨⟨rfl,rfl,rfl,oK⟩,rfl,rfl,oK⟩⟩⟩⟩⟩⟩⟩⟩⟩
 · have hS := hs0
   exact ⟨kA,tt ⟨(ri hS),tt ⟨ow,tt ⟨(rj (by omega)),tt ⟨(nF h1),tt ⟨(gG ws hw),tt ⟨(HL h2),tt ⟨(ES op ws xs k w h),tt ⟨rfl,⟨⟨⟨⟨rfl,oK,oK⟩,⟨rfl,oK,oK⟩,⟨rfl,oK,oK⟩,oK⟩,⟨⟨rfl,oK,oK⟩,⟨rfl,oK,oK⟩,oK⟩,⟨⟨rfl,oK,oK⟩,⟨rfl,oK,oK⟩,oK⟩,⟨⟨rfl,oK,oK⟩,⟨rfl,oK,oK⟩,⟨rfl,(cI (bi op ws k w)),oK⟩,oK⟩,⟨⟨rfl,oK,oK⟩,oK⟩,⟨⟨rfl,oK,oK⟩,⟨rfl,(cI (bi op ws k w)),oK⟩,oK⟩,⟨⟨rfl,oK,oK⟩,⟨rfl,(cI (bi op ws k w)),oK⟩,oK⟩,⟨⟨rfl,oK,oK⟩,⟨rfl,oK,oK⟩,oK⟩,⟨⟨rfl,(cI (bi op ws k w)),oK⟩,oK⟩,⟨⟨rfl,oK,oK⟩,⟨rfl,oK,oK⟩,oK⟩,⟨⟨rfl,oK,oK⟩,oK⟩,⟨⟨rfl,oK,oK⟩,oK⟩,⟨⟨rfl,oK,oK⟩,oK⟩,⟨⟨rfl,oK,oK⟩,oK⟩,⟨⟨rfl,oK,oK⟩,oK⟩,oK,oK⟩,tt ⟨⟨rfl,rfl,rfl,oK⟩,rfl,rfl,oK⟩⟩⟩⟩⟩⟩⟩⟩⟩⟩⟩
abbrev zW (op : Int) (ws xs : List Int) (k w : Int) : Ct := ⟨121,[(i6 op),(.agg [(LI ws),(LI xs),(i6 k),(i6 w)])],true,(.tup [(.agg [(i6 0),(.v .nilf),(.v .nilf)]),(i6 0),(dB false)])⟩
theorem tq (op : Int) (ws xs : List Int) (k w : Int) (hw : ws.length ≤ 9223372036854775807) (h : vZ op ws = false) : CC (zW op ws xs k w) := by
 refine af.vc (V := TT 4 (CS (op = 2 ∨ op = 3 ∨ op = 4 ∨ op = 5 ∨ op = 6 ∨ op = 7 ∨ op = 8 ∨ op = 9) (CC uB∧TT 1 ((∃ (j : Nat) (e : Int × Value),dV[j]? = some e∧op = e.1∧(∀ e' ∈ dV.take j,op ≠ e'.1)∧sj (D.ofVal e.2) (.agg [(aP op),(.fn (.func (c5 op)) [] []),(.fn (.func (c8 op)) [] [])]))∧TT 8 (CS ((ws.length : Int) = (bv op)) (TT 10 ((True∧(!decide ((ws.length : Int) = (bv op))) = false)∧TT 2 (CC (DB ws)∧TT 1 ((!(ws.all av)) = true∧TT 7 (((0 : Int) = 0∧True∧True∧True)∧(0 : Int) = 0∧false = false∧True))))) (TT 10 ((True∧(!decide ((ws.length : Int) = (bv op))) = true)∧TT 11 (((0 : Int) = 0∧True∧True∧True)∧(0 : Int) = 0∧false = false∧True)))))) (CC uB∧TT 1 ((∀ e' ∈ dV,op ≠ e'.1)∧TT 8 (CS (op = 1 ∨ op = 10 ∨ op = 11 ∨ op = 12 ∨ op = 13) (CC xo∧TT 1 ((∃ (j : Nat) (e : Int × Value),en[j]? = some e∧op = e.1∧(∀ e' ∈ en.take j,op ≠ e'.1)∧sj (D.ofVal e.2) (.agg [(aP op),(.fn (.func (c5 op)) [] []),(.fn (.func (c8 op)) [] [])]))∧TT 5 (CS ((ws.length : Int) = (bv op)) (TT 10 ((True∧(!decide ((ws.length : Int) = (bv op))) = false)∧TT 2 (CC (DB ws)∧TT 1 ((!(ws.all av)) = true∧TT 7 (((0 : Int) = 0∧True∧True∧True)∧(0 : Int) = 0∧false = false∧True))))) (TT 10 ((True∧(!decide ((ws.length : Int) = (bv op))) = true)∧TT 11 (((0 : Int) = 0∧True∧True∧True)∧(0 : Int) = 0∧false = false∧True)))))) (CC xo∧TT 1 ((∀ e' ∈ en,op ≠ e'.1)∧TT 27 (((0 : Int) = 0∧True∧True∧True)∧(0 : Int) = 0∧false = false∧True)))))))) (.s 1 (op = 2 ∨ op = 3 ∨ op = 4 ∨ op = 5 ∨ op = 6 ∨ op = 7 ∨ op = 8 ∨ op = 9) (.w 1 [(0,uB.O),(2,.ent (.agg [(aP op),(.fn (.func (c5 op)) [] []),(.fn (.func (c8 op)) [] [])]))] <| .s 4 ((ws.length : Int) = (bv op)) (.w 4 [(10,.val (dB false)),(13,(DB ws).O)] <| .t 38 (.e)) (.w 4 [(10,.val (dB true))] <| .e)) (.w 1 [(0,uB.O),(2,.idx none)] <| .s 3 (op = 1 ∨ op = 10 ∨ op = 11 ∨ op = 12 ∨ op = 13) (.w 3 [(0,xo.O),(2,.ent (.agg [(aP op),(.fn (.func (c5 op)) [] []),(.fn (.func (c8 op)) [] [])]))] <| .s 4 ((ws.length : Int) = (bv op)) (.w 4 [(10,.val (dB false)),(13,(DB ws).O)] <| .t 38 (.e)) (.w 4 [(10,.val (dB true))] <| .e)) (.w 3 [(0,xo.O),(2,.idx none)] <| .e))) Tryz.func121 rfl rfl rfl (by kernel_rfl) ?_
 refine tt ⟨fun hs0 => ?_,fun hs0 => ?_⟩
 · have hS := hs0
   refine ⟨kA,tt ⟨(rh hS),tt ⟨fun hs1 => ?_,fun hs1 => ?_⟩⟩⟩
   · exact tt ⟨(nF hs1),tt ⟨(gG ws hw),tt ⟨(HR (by rcases Br h with h5 | ⟨_,h5⟩; exact absurd (by assumption) h5; rw [h5]; simp)),tt ⟨⟨rfl,oK,oK,oK⟩,rfl,rfl,oK⟩⟩⟩⟩
   · exact tt ⟨(nT hs1),tt ⟨⟨rfl,oK,oK,oK⟩,rfl,rfl,oK⟩⟩
 · have hS := hs0
   refine ⟨kA,tt ⟨(ri hS),tt ⟨fun hs2 => ?_,fun hs2 => ?_⟩⟩⟩
   · have hO := hs2
     refine ⟨ow,tt ⟨(rj hO),tt ⟨fun hs3 => ?_,fun hs3 => ?_⟩⟩⟩
     · exact tt ⟨(nF hs3),tt ⟨(gG ws hw),tt ⟨(HR (by rcases Br h with h5 | ⟨_,h5⟩; exact absurd (by assumption) h5; rw [h5]; simp)),tt ⟨⟨rfl,oK,oK,oK⟩,rfl,rfl,oK⟩⟩⟩⟩
     · exact tt ⟨(nT hs3),tt ⟨⟨rfl,oK,oK,oK⟩,rfl,rfl,oK⟩⟩
   · have hO := hs2
     exact ⟨ow,tt ⟨(xp hO),tt ⟨⟨rfl,oK,oK,oK⟩,rfl,rfl,oK⟩⟩⟩
theorem lV {op : Int} {ws : List Int} {k w : Int} (h : vZ op ws = true) (h2 : av (bi op ws k w) = true) : lf op ws k w = true := by rw [xm,h,h2]; rfl
theorem bQ {op : Int} {ws : List Int} {k w : Int} (h : ¬vZ op ws = true) : lf op ws k w = false := by rw [xm,Bool.eq_false_iff.2 h]; rfl
theorem bR {op : Int} {ws : List Int} {k w : Int} (h2 : ¬av (bi op ws k w) = true) : lf op ws k w = false := by rw [xm,Bool.eq_false_iff.2 h2,Bool.and_false]
theorem js {op : Int} {ws : List Int} {k w : Int} (h : lf op ws k w = false) : 0 = eL op ws k w∧1 = jS op ws k w := by unfold eL jS; rw [h]; exact ⟨rfl,rfl⟩
theorem oz {op : Int} {ws : List Int} {k w : Int} (h : lf op ws k w = true) : bi op ws k w = eL op ws k w∧0 = jS op ws k w := by unfold eL jS; rw [h]; exact ⟨rfl,rfl⟩
abbrev FB (op : Int) (ws : List Int) (k w : Int) : Ct := ⟨119,[(i6 op),(LI ws),(.agg [(i6 k),(i6 w)])],false,(.tup [(i6 (eL op ws k w)),(i6 (jS op ws k w))])⟩
theorem BB (op : Int) (ws : List Int) (k w : Int) (hw : ws.length ≤ 9223372036854775807) : CC (FB op ws k w) := by
 refine af.vc (V := TT 3 (CS (vZ op ws = true) (TT 2 (((0 ≤ (0 : Int)∧0 < (2 : Int))∧True)∧TT 1 (((0 ≤ (1 : Int)∧1 < (2 : Int))∧True)∧TT 2 ((t4 [] [(i6 op),(.agg [(LI ws),.nils,(i6 k),(i6 w)])] (zV op ws [] k w).as∧CC (zV op ws [] k w))∧TT 10 (CB (!(av (bi op ws k w))) (TT 4 (((0 : Int) = (eL op ws k w)∧(1 : Int) = (jS op ws k w)∧True)∧(True∧True∧True))) (TT 5 (((bi op ws k w) = (eL op ws k w)∧(0 : Int) = (jS op ws k w)∧True)∧(True∧True∧True)))))))) (TT 2 (((0 ≤ (0 : Int)∧0 < (2 : Int))∧True)∧TT 1 (((0 ≤ (1 : Int)∧1 < (2 : Int))∧True)∧TT 2 ((t4 [] [(i6 op),(.agg [(LI ws),.nils,(i6 k),(i6 w)])] (zW op ws [] k w).as∧CC (zW op ws [] k w))∧TT 14 (((0 : Int) = (eL op ws k w)∧(1 : Int) = (jS op ws k w)∧True)∧(True∧True∧True)))))))) (.s 1 (vZ op ws = true) (.w 1 [(7,(zV op ws [] k w).O')] <| .b 24 (.e) (.e)) (.w 1 [(7,(zW op ws [] k w).O')] <| .e)) Tryz.func119 rfl rfl rfl (by kernel_rfl) ?_
 refine tt ⟨fun hs0 => ?_,fun hs0 => ?_⟩
 · have hb := hs0
   refine tt ⟨⟨by omega,oK⟩,tt ⟨⟨by omega,oK⟩,tt ⟨⟨⟨rfl,⟨rfl,rfl,rfl,rfl,oK⟩,oK⟩,(tp op ws [] k w hw hb)⟩,tt ⟨fun hc24 => ?_,fun hc24 => ?_⟩⟩⟩⟩
   · refine tt ⟨⟨?_,?_,oK⟩,⟨oK,oK,oK⟩⟩
     all_goals (first | exact (js (bQ hb)).1 | exact (js (bQ hb)).2 | exact (js (bR (by simpa using hc24))).1 | exact (js (bR (by simpa using hc24))).2 | exact (oz (lV hb (by simpa using hc24))).1 | exact (oz (lV hb (by simpa using hc24))).2)
   · refine tt ⟨⟨?_,?_,oK⟩,⟨oK,oK,oK⟩⟩
     all_goals (first | exact (js (bQ hb)).1 | exact (js (bQ hb)).2 | exact (js (bR (by simpa using hc24))).1 | exact (js (bR (by simpa using hc24))).2 | exact (oz (lV hb (by simpa using hc24))).1 | exact (oz (lV hb (by simpa using hc24))).2)
 · have hb := hs0
   refine tt ⟨⟨by omega,oK⟩,tt ⟨⟨by omega,oK⟩,tt ⟨⟨⟨rfl,⟨rfl,rfl,rfl,rfl,oK⟩,oK⟩,(tq op ws [] k w hw (Bool.eq_false_iff.2 hb))⟩,tt ⟨⟨?_,?_,oK⟩,⟨oK,oK,oK⟩⟩⟩⟩⟩
   all_goals (first | exact (js (bQ hb)).1 | exact (js (bQ hb)).2 | exact (js (bR (by simpa using hc24))).1 | exact (js (bR (by simpa using hc24))).2 | exact (oz (lV hb (by simpa using hc24))).1 | exact (oz (lV hb (by simpa using hc24))).2)
abbrev FC (op : Int) (ws xs nums : List Int) : Ct := ⟨118,[(i6 op),(LI ws),(LI xs),(LI nums)],false,(.tup [(i6 (cH op ws xs nums)),(i6 (fg op ws xs nums))])⟩
abbrev mW (op : Int) (ws : List Int) (xs : List Int) (nums : List Int) : Lp (Nat) := jO [1,10,11,44,45,46] 11 (fun (i : Nat) => ⟨[(1,(LI ws)),(10,(.ptr 9 0 0 0)),(11,(.ptr 10 0 0 0)),(44,(LI xs)),(45,(i6 (xs.length : Int))),(46,(i6 (i : Int)))],[.dead,.dead,.dead,.dead,.dead,.dead,.dead,.dead,.dead,(.var 230 [(LI ws),(LI xs),(i6 (nums.getD 0 0)),(i6 (nums.getD 1 0))]),(.var 233 [(aP op),(.fn (.func (c5 op)) [] []),(.fn (.func (c8 op)) [] [])])]⟩) (fun (i : Nat) => i ≤ xs.length∧∀ j,j < i → 0 ≤ xs.getD j 0∧xs.getD j 0 ≤ aj (ws.getD j 0)) (fun (i : Nat) => xs.length - i)
theorem BC (op : Int) (ws xs nums : List Int) (hwl : ws.length ≤ 9223372036854775807) (hxl0 : xs.length ≤ 9223372036854775807) : CC (FC op ws xs nums) := by
 refine af.vc (V := TT 2 (CS ((nums.length : Int) = 2) (TT 3 ((True∧(!decide ((nums.length : Int) = 2)) = false)∧TT 6 (CN ((xs.length : Int) = (ws.length : Int)) (TT 4 (((0 : Int) = (cH op ws xs nums)∧(1 : Int) = (fg op ws xs nums)∧True)∧(True∧True∧True))) (TT 3 (IX 0 nums.length∧TT 2 (IX 1 nums.length∧TT 4 (CS (vZ op ws = true) (TT 2 (CC (zV op ws xs (nums.getD 0 0) (nums.getD 1 0))∧TT 10 (CB (!(av (bi op ws (nums.getD 0 0) (nums.getD 1 0)))) (TT 4 (((0 : Int) = (cH op ws xs nums)∧(1 : Int) = (fg op ws xs nums)∧True)∧(True∧True∧True))) (TT 3 (GO (mW op ws xs nums) 0 (∀ i,(mW op ws xs nums).inv i → TT 1 (CD ((i : Int) < (xs.length : Int)) (TT 1 (IX (i : Int) xs.length∧TT 3 (CS ((xs.getD i 0) < 0) (TT 2 ((True∧(decide ((xs.getD i 0) < 0)) = true)∧TT 12 (((0 : Int) = (cH op ws xs nums)∧(1 : Int) = (fg op ws xs nums)∧True)∧(True∧True∧True)))) (TT 2 ((True∧(decide ((xs.getD i 0) < 0)) = false)∧TT 3 (IX (i : Int) ws.length∧TT 1 (CC (uz (ws.getD i 0))∧TT 2 (CD ((xs.getD i 0) > (aj (ws.getD i 0))) (TT 4 (((0 : Int) = (cH op ws xs nums)∧(1 : Int) = (fg op ws xs nums)∧True)∧(True∧True∧True))) (W6 ((i + 1 : Nat) : Int)∧TT 1 (AG (mW op ws xs nums) i (i + 1))))))))))) (TT 3 (GC (cV op ws xs (nums.getD 0 0) (nums.getD 1 0))∧TT 4 (((lg op ws xs (nums.getD 0 0) (nums.getD 1 0)) = (cH op ws xs nums)∧(0 : Int) = (fg op ws xs nums)∧True)∧(True∧True∧True))))))))))) (TT 2 (CC (zW op ws xs (nums.getD 0 0) (nums.getD 1 0))∧TT 14 (((0 : Int) = (cH op ws xs nums)∧(1 : Int) = (fg op ws xs nums)∧True)∧(True∧True∧True))))))))))) (TT 3 ((True∧(!decide ((nums.length : Int) = 2)) = true)∧TT 10 (((0 : Int) = (cH op ws xs nums)∧(1 : Int) = (fg op ws xs nums)∧True)∧(True∧True∧True)))))) (.s 1 ((nums.length : Int) = 2) (.w 1 [(3,.val (dB false))] <| .b 25 (.e) (.s 4 (vZ op ws = true) (.w 4 [(2,(zV op ws xs (nums.getD 0 0) (nums.getD 1 0)).O)] <| .b 43 (.e) (.l (mW op ws xs nums) 0 (fun i => .b 47 (.s 10 ((xs.getD i 0) < 0) (.w 10 [(2,.val (dB true))] <| .e) (.w 10 [(2,.val (dB false)),(8,(uz (ws.getD i 0)).O)] <| .b 61 (.e) (.w 12 [(0,.val (i6 ((i + 1 : Nat) : Int)))] <| .e))) (.w 13 [(3,.callg none false (i6 (lg op ws xs (nums.getD 0 0) (nums.getD 1 0))))] <| .e)))) (.w 4 [(2,(zW op ws xs (nums.getD 0 0) (nums.getD 1 0)).O)] <| .e))) (.w 1 [(3,.val (dB true))] <| .e)) Tryz.func118 rfl rfl rfl (by kernel_rfl) ?_
 refine tt ⟨fun hs0 => ?_,fun hs0 => ?_⟩
 · refine tt ⟨(nF hs0),tt (cn (fun hc25 => ?_) (fun hc25 => ?_))⟩
   · refine tt ⟨⟨?_,?_,oK⟩,⟨oK,oK,oK⟩⟩
     all_goals (first | exact (aO (mL (by omega))).1.symm | exact (aO (mL (by omega))).2.symm | exact (aO (mM (by omega))).1.symm | exact (aO (mM (by omega))).2.symm | exact (aO (bI (bQ hb))).1.symm | exact (aO (bI (bQ hb))).2.symm | exact (aO (bI (bR (by simpa using hc43)))).1.symm | exact (aO (bI (bR (by simpa using hc43)))).2.symm | exact (aO (gF (i := i) (by omega) (by omega))).1.symm | exact (aO (gF (i := i) (by omega) (by omega))).2.symm | exact (dW hl2 hxl hok hin).1.symm | exact (dW hl2 hxl hok hin).2.symm)
   · refine tt ⟨ix,tt ⟨ix,tt ⟨fun hs1 => ?_,fun hs1 => ?_⟩⟩⟩
     · have hb := hs1
       refine tt ⟨(tp op ws xs (nums.getD 0 0) (nums.getD 1 0) hwl hb),tt ⟨fun hc43 => ?_,fun hc43 => ?_⟩⟩
       · refine tt ⟨⟨?_,?_,oK⟩,⟨oK,oK,oK⟩⟩
         all_goals (first | exact (aO (mL (by omega))).1.symm | exact (aO (mL (by omega))).2.symm | exact (aO (mM (by omega))).1.symm | exact (aO (mM (by omega))).2.symm | exact (aO (bI (bQ hb))).1.symm | exact (aO (bI (bQ hb))).2.symm | exact (aO (bI (bR (by simpa using hc43)))).1.symm | exact (aO (bI (bR (by simpa using hc43)))).2.symm | exact (aO (gF (i := i) (by omega) (by omega))).1.symm | exact (aO (gF (i := i) (by omega) (by omega))).2.symm | exact (dW hl2 hxl hok hin).1.symm | exact (dW hl2 hxl hok hin).2.symm)
       · refine tt ?_
         have hok := lV hb (by simpa using hc43)
         have hl2 : nums.length = 2 := by omega
         have hxl : xs.length = ws.length := by omega
         refine ⟨rfl,⟨by omega,fun j hj => by omega⟩,?_⟩
         intro i hinv
         obtain ⟨hi,hall⟩ := hinv
         refine tt (cd (fun hc47 => ?_) (fun hc47 => ?_))
         · refine tt ⟨ix,tt ⟨fun hs2 => ?_,fun hs2 => ?_⟩⟩
           · refine tt ⟨(vT hs2),tt ⟨⟨?_,?_,oK⟩,⟨oK,oK,oK⟩⟩⟩
             all_goals (first | exact (aO (mL (by omega))).1.symm | exact (aO (mL (by omega))).2.symm | exact (aO (mM (by omega))).1.symm | exact (aO (mM (by omega))).2.symm | exact (aO (bI (bQ hb))).1.symm | exact (aO (bI (bQ hb))).2.symm | exact (aO (bI (bR (by simpa using hc43)))).1.symm | exact (aO (bI (bR (by simpa using hc43)))).2.symm | exact (aO (gF (i := i) (by omega) (by omega))).1.symm | exact (aO (gF (i := i) (by omega) (by omega))).2.symm | exact (dW hl2 hxl hok hin).1.symm | exact (dW hl2 hxl hok hin).2.symm)
           · refine tt ⟨(vF hs2),tt ⟨ix,tt ⟨(p6 (ws.getD i 0)),tt (cd (fun hc61 => ?_) (fun hc61 => ?_))⟩⟩⟩
             · refine tt ⟨⟨?_,?_,oK⟩,⟨oK,oK,oK⟩⟩
               all_goals (first | exact (aO (mL (by omega))).1.symm | exact (aO (mL (by omega))).2.symm | exact (aO (mM (by omega))).1.symm | exact (aO (mM (by omega))).2.symm | exact (aO (bI (bQ hb))).1.symm | exact (aO (bI (bQ hb))).2.symm | exact (aO (bI (bR (by simpa using hc43)))).1.symm | exact (aO (bI (bR (by simpa using hc43)))).2.symm | exact (aO (gF (i := i) (by omega) (by omega))).1.symm | exact (aO (gF (i := i) (by omega) (by omega))).2.symm | exact (dW hl2 hxl hok hin).1.symm | exact (dW hl2 hxl hok hin).2.symm)
             · refine ⟨w6,tt ⟨(i + 1),rfl,?_,(?_ : xs.length - (i + 1) < xs.length - i)⟩⟩
               · exact ⟨by omega,b6 hall ⟨by omega,by omega⟩⟩
               · omega
         · have hin : zQ ws xs = true := Bq (fun j hj => hall j (by omega))
           refine tt ⟨(G5 op ws xs _ _ hok hxl hin),tt ⟨⟨?_,?_,oK⟩,⟨oK,oK,oK⟩⟩⟩
           all_goals (first | exact (aO (mL (by omega))).1.symm | exact (aO (mL (by omega))).2.symm | exact (aO (mM (by omega))).1.symm | exact (aO (mM (by omega))).2.symm | exact (aO (bI (bQ hb))).1.symm | exact (aO (bI (bQ hb))).2.symm | exact (aO (bI (bR (by simpa using hc43)))).1.symm | exact (aO (bI (bR (by simpa using hc43)))).2.symm | exact (aO (gF (i := i) (by omega) (by omega))).1.symm | exact (aO (gF (i := i) (by omega) (by omega))).2.symm | exact (dW hl2 hxl hok hin).1.symm | exact (dW hl2 hxl hok hin).2.symm)
     · have hb := hs1
       refine tt ⟨(tq op ws xs (nums.getD 0 0) (nums.getD 1 0) hwl (Bool.eq_false_iff.2 hb)),tt ⟨⟨?_,?_,oK⟩,⟨oK,oK,oK⟩⟩⟩
       all_goals (first | exact (aO (mL (by omega))).1.symm | exact (aO (mL (by omega))).2.symm | exact (aO (mM (by omega))).1.symm | exact (aO (mM (by omega))).2.symm | exact (aO (bI (bQ hb))).1.symm | exact (aO (bI (bQ hb))).2.symm | exact (aO (bI (bR (by simpa using hc43)))).1.symm | exact (aO (bI (bR (by simpa using hc43)))).2.symm | exact (aO (gF (i := i) (by omega) (by omega))).1.symm | exact (aO (gF (i := i) (by omega) (by omega))).2.symm | exact (dW hl2 hxl hok hin).1.symm | exact (dW hl2 hxl hok hin).2.symm)
 · refine tt ⟨(nT hs0),tt ⟨⟨?_,?_,oK⟩,⟨oK,oK,oK⟩⟩⟩
   all_goals (first | exact (aO (mL (by omega))).1.symm | exact (aO (mL (by omega))).2.symm | exact (aO (mM (by omega))).1.symm | exact (aO (mM (by omega))).2.symm | exact (aO (bI (bQ hb))).1.symm | exact (aO (bI (bQ hb))).2.symm | exact (aO (bI (bR (by simpa using hc43)))).1.symm | exact (aO (bI (bR (by simpa using hc43)))).2.symm | exact (aO (gF (i := i) (by omega) (by omega))).1.symm | exact (aO (gF (i := i) (by omega) (by omega))).2.symm | exact (dW hl2 hxl hok hin).1.symm | exact (dW hl2 hxl hok hin).2.symm)
end Go.Proofs.YtgmpoenfoacofaaGreat
