/-
  Package bits: the tables of operators; Width, Apply.
-/
import Derived.Test.YtgmpoenfoacofaaGreatQVbB
import Derived.Test.YtgmpoenfoacofaaGreatQMap
namespace Go.Proofs.YtgmpoenfoacofaaGreat
open Go.RowKit
set_option linter.unusedVariables false
set_option linter.unusedSimpArgs false
abbrev d4 : aA := (.var 233 [(i6 0),(.v .nilf),(.v .nilf)])
abbrev aZ (op : Int) : D := (i6 (bk op))
abbrev cD : D := (.ptr 1 0 0 0)
abbrev cP : D := (.ptr 2 0 0 0)
set_option maxRecDepth 100000
def eM : List (Int × Value) := [(2,.agg #[.int .i64 1,.func (.func 127) #[] #[],.func (.func 128) #[] #[]]),(3,.agg #[.int .i64 2,.func (.func 130) #[] #[],.func (.func 131) #[] #[]]),(4,.agg #[.int .i64 2,.func (.func 130) #[] #[],.func (.func 132) #[] #[]]),(5,.agg #[.int .i64 2,.func (.func 130) #[] #[],.func (.func 133) #[] #[]]),(6,.agg #[.int .i64 2,.func (.func 130) #[] #[],.func (.func 134) #[] #[]]),(7,.agg #[.int .i64 2,.func (.func 130) #[] #[],.func (.func 135) #[] #[]]),(8,.agg #[.int .i64 2,.func (.func 136) #[] #[],.func (.func 137) #[] #[]]),(9,.agg #[.int .i64 2,.func (.func 136) #[] #[],.func (.func 139) #[] #[]])]
set_option maxHeartbeats 800000 in
theorem xn (w : World) : Calls Tryz.prog 123 #[] w (fun e w' => ∃ arr : Array MapEntry,e = .returned (.map (some w.heap.size))∧w' = w.alloc (.map arr 8)∧arr.toList.map (fun e => (e.key,e.val)) = eM.map (fun e => (Value.int .i64 e.1,e.2))) := by
  go_enter Tryz.func123,Tryz.ntmps123
  go_wp2_with (first | (rw [ry]) | (rw [tL Tryz.underlying237 Tryz.underlying3 (by rfl)]))
  go_ret
  exact ⟨_,rfl,rfl,rfl⟩
abbrev xo : Ct := ⟨123,[],false,.v (.mp eM)⟩
theorem l7 : CC xo := ah.of_map xn
def fe : List (Int × Value) := [(1,.agg #[.int .i64 0,.func (.func 140) #[] #[],.func (.func 141) #[] #[]]),(10,.agg #[.int .i64 3,.func (.func 142) #[] #[],.func (.func 143) #[] #[]]),(11,.agg #[.int .i64 2,.func (.func 144) #[] #[],.func (.func 145) #[] #[]]),(12,.agg #[.int .i64 1,.func (.func 146) #[] #[],.func (.func 147) #[] #[]]),(13,.agg #[.int .i64 1,.func (.func 148) #[] #[],.func (.func 149) #[] #[]])]
set_option maxHeartbeats 800000 in
theorem xp (w : World) : Calls Tryz.prog 124 #[] w (fun e w' => ∃ arr : Array MapEntry,e = .returned (.map (some w.heap.size))∧w' = w.alloc (.map arr 5)∧arr.toList.map (fun e => (e.key,e.val)) = fe.map (fun e => (Value.int .i64 e.1,e.2))) := by
  go_enter Tryz.func124,Tryz.ntmps124
  go_wp2_with (first | (rw [ry]) | (rw [tL Tryz.underlying237 Tryz.underlying3 (by rfl)]))
  go_ret
  exact ⟨_,rfl,rfl,rfl⟩
abbrev Ay : Ct := ⟨124,[],false,.v (.mp fe)⟩
theorem qD : CC Ay := ah.of_map xp
def dT (op : Int) : Nat :=
  if op = 1 then 140 else
  if op = 2 then 127 else
  if op = 3 then 130 else
  if op = 4 then 130 else
  if op = 5 then 130 else
  if op = 6 then 130 else
  if op = 7 then 130 else
  if op = 8 then 136 else
  if op = 9 then 136 else
  if op = 10 then 142 else
  if op = 11 then 144 else
  if op = 12 then 146 else
  if op = 13 then 148 else 0
def dU (op : Int) : Nat :=
  if op = 1 then 141 else
  if op = 2 then 128 else
  if op = 3 then 131 else
  if op = 4 then 132 else
  if op = 5 then 133 else
  if op = 6 then 134 else
  if op = 7 then 135 else
  if op = 8 then 137 else
  if op = 9 then 139 else
  if op = 10 then 143 else
  if op = 11 then 145 else
  if op = 12 then 147 else
  if op = 13 then 149 else 0
abbrev cW (op : Int) (ws xs : List Int) (k w : Int) : Ct := ⟨dT op,[(.agg [(LI ws),(LI xs),(i6 k),(i6 w)])],false,i6 (be op ws k w)⟩
abbrev cV (op : Int) (ws xs : List Int) (k w : Int) : Ct := ⟨dU op,[(.agg [(LI ws),(LI xs),(i6 k),(i6 w)])],false,i6 (ij op ws xs k w)⟩
theorem tN {op : Int} {ws : List Int} (h : yX op ws = true) : op = 1 ∨ op = 2 ∨ op = 3 ∨ op = 4 ∨ op = 5 ∨ op = 6 ∨ op = 7 ∨ op = 8 ∨ op = 9 ∨ op = 10 ∨ op = 11 ∨ op = 12 ∨ op = 13 := by
  have h1 := (xl h).1
  by_cases hr : op < 1 ∨ 13 < op
  · have : bk op = -1 := by unfold bk; rw [if_neg (by omega),if_neg (by omega),if_neg (by omega),if_neg (by omega)]
    omega
  · omega
theorem Ir (op : Int) (ws xs : List Int) (k w : Int) (h : yX op ws = true) : GC (cW op ws xs k w) := by
  obtain ⟨h1,hf⟩ := xl h
  rcases tN h with rfl | rfl | rfl | rfl | rfl | rfl | rfl | rfl | rfl | rfl | rfl | rfl | rfl
  · (have hl : (ws.length : Int) = 0 := h1); exact ⟨by kernel_rfl,Dt ws xs k w (by omega) hf⟩
  · (have hl : (ws.length : Int) = 1 := h1); exact ⟨by kernel_rfl,Fb ws xs k w (by omega) hf⟩
  · (have hl : (ws.length : Int) = 2 := h1); exact ⟨by kernel_rfl,jq ws xs k w (by omega) hf⟩
  · (have hl : (ws.length : Int) = 2 := h1); exact ⟨by kernel_rfl,jq ws xs k w (by omega) hf⟩
  · (have hl : (ws.length : Int) = 2 := h1); exact ⟨by kernel_rfl,jq ws xs k w (by omega) hf⟩
  · (have hl : (ws.length : Int) = 2 := h1); exact ⟨by kernel_rfl,jq ws xs k w (by omega) hf⟩
  · (have hl : (ws.length : Int) = 2 := h1); exact ⟨by kernel_rfl,jq ws xs k w (by omega) hf⟩
  · (have hl : (ws.length : Int) = 2 := h1); exact ⟨by kernel_rfl,Fc ws xs k w (by omega) hf⟩
  · (have hl : (ws.length : Int) = 2 := h1); exact ⟨by kernel_rfl,Fc ws xs k w (by omega) hf⟩
  · (have hl : (ws.length : Int) = 3 := h1); exact ⟨by kernel_rfl,He ws xs k w (by omega) hf⟩
  · (have hl : (ws.length : Int) = 2 := h1); exact ⟨by kernel_rfl,Hf ws xs k w (by omega) hf⟩
  · (have hl : (ws.length : Int) = 1 := h1); exact ⟨by kernel_rfl,Du ws xs k w (by omega) hf⟩
  · (have hl : (ws.length : Int) = 1 := h1); exact ⟨by kernel_rfl,Hg ws xs k w (by omega) hf⟩
theorem Ks (op : Int) (ws xs : List Int) (k w : Int) (h : fT op ws k w = true) (hx : xs.length = ws.length) (hin : yV ws xs = true) : GC (cV op ws xs k w) := by
  obtain ⟨h1,hf,h3⟩ := jb h
  have hb : yX op ws = true := by unfold yX; rw [decide_eq_true h1,hf]; rfl
  rcases tN hb with rfl | rfl | rfl | rfl | rfl | rfl | rfl | rfl | rfl | rfl | rfl | rfl | rfl
  · (have hl : (ws.length : Int) = 0 := h1); exact ⟨by kernel_rfl,Fd ws xs k w ⟨by omega,hf,hx,hin⟩⟩
  · (have hl : (ws.length : Int) = 1 := h1); exact ⟨by kernel_rfl,I2 ws xs k w ⟨by omega,hf,hx,hin⟩⟩
  · (have hl : (ws.length : Int) = 2 := h1); exact ⟨by kernel_rfl,I3 ws xs k w ⟨by omega,hf,hx,hin⟩⟩
  · (have hl : (ws.length : Int) = 2 := h1); exact ⟨by kernel_rfl,Kp ws xs k w ⟨by omega,hf,hx,hin⟩⟩
  · (have hl : (ws.length : Int) = 2 := h1); exact ⟨by kernel_rfl,I4 ws xs k w ⟨by omega,hf,hx,hin⟩⟩
  · (have hl : (ws.length : Int) = 2 := h1); exact ⟨by kernel_rfl,I5 ws xs k w ⟨by omega,hf,hx,hin⟩⟩
  · (have hl : (ws.length : Int) = 2 := h1); exact ⟨by kernel_rfl,I6 ws xs k w ⟨by omega,hf,hx,hin⟩⟩
  · (have hl : (ws.length : Int) = 2 := h1); exact ⟨by kernel_rfl,Kq ws xs k w ⟨by omega,hf,hx,hin⟩⟩
  · (have hl : (ws.length : Int) = 2 := h1); exact ⟨by kernel_rfl,Kr ws xs k w ⟨by omega,hf,hx,hin⟩⟩
  · (have hl : (ws.length : Int) = 3 := h1); exact ⟨by kernel_rfl,I8 ws xs k w ⟨by omega,hf,hx,hin⟩ (xj h)⟩
  · (have hl : (ws.length : Int) = 2 := h1); exact ⟨by kernel_rfl,I9 ws xs k w ⟨by omega,hf,hx,hin⟩⟩
  · (have hl : (ws.length : Int) = 1 := h1); exact ⟨by kernel_rfl,Fe ws xs k w ⟨by omega,hf,hx,hin⟩ (xk h)⟩
  · (have hl : (ws.length : Int) = 1 := h1); exact ⟨by kernel_rfl,I7 ws xs k w ⟨by omega,hf,hx,hin⟩⟩
theorem tO {op : Int} (h : op = 2 ∨ op = 3 ∨ op = 4 ∨ op = 5 ∨ op = 6 ∨ op = 7 ∨ op = 8 ∨ op = 9) : ∃ (j : Nat) (e : Int × Value),eM[j]? = some e∧op = e.1∧(∀ e' ∈ eM.take j,op ≠ e'.1)∧uU (D.ofVal e.2) (.agg [(aZ op),(.fn (.func (dT op)) [] []),(.fn (.func (dU op)) [] [])]) := by
  rcases h with rfl | rfl | rfl | rfl | rfl | rfl | rfl | rfl
  · exact ⟨0,_,rfl,rfl,by decide,⟨rfl,rfl,rfl,oK⟩⟩
  · exact ⟨1,_,rfl,rfl,by decide,⟨rfl,rfl,rfl,oK⟩⟩
  · exact ⟨2,_,rfl,rfl,by decide,⟨rfl,rfl,rfl,oK⟩⟩
  · exact ⟨3,_,rfl,rfl,by decide,⟨rfl,rfl,rfl,oK⟩⟩
  · exact ⟨4,_,rfl,rfl,by decide,⟨rfl,rfl,rfl,oK⟩⟩
  · exact ⟨5,_,rfl,rfl,by decide,⟨rfl,rfl,rfl,oK⟩⟩
  · exact ⟨6,_,rfl,rfl,by decide,⟨rfl,rfl,rfl,oK⟩⟩
  · exact ⟨7,_,rfl,rfl,by decide,⟨rfl,rfl,rfl,oK⟩⟩
theorem tP {op : Int} (h : ¬(op = 2 ∨ op = 3 ∨ op = 4 ∨ op = 5 ∨ op = 6 ∨ op = 7 ∨ op = 8 ∨ op = 9)) : ∀ e' ∈ eM,op ≠ e'.1 := by
  intro e' he'
  simp only [eM,List.mem_cons,List.not_mem_nil,or_false] at he'
  rcases he' with rfl | rfl | rfl | rfl | rfl | rfl | rfl | rfl <;> simp only [ne_eq] <;> omega
theorem tQ {op : Int} (h : op = 1 ∨ op = 10 ∨ op = 11 ∨ op = 12 ∨ op = 13) : ∃ (j : Nat) (e : Int × Value),fe[j]? = some e∧op = e.1∧(∀ e' ∈ fe.take j,op ≠ e'.1)∧uU (D.ofVal e.2) (.agg [(aZ op),(.fn (.func (dT op)) [] []),(.fn (.func (dU op)) [] [])]) := by
  rcases h with rfl | rfl | rfl | rfl | rfl
  · exact ⟨0,_,rfl,rfl,by decide,⟨rfl,rfl,rfl,oK⟩⟩
  · exact ⟨1,_,rfl,rfl,by decide,⟨rfl,rfl,rfl,oK⟩⟩
  · exact ⟨2,_,rfl,rfl,by decide,⟨rfl,rfl,rfl,oK⟩⟩
  · exact ⟨3,_,rfl,rfl,by decide,⟨rfl,rfl,rfl,oK⟩⟩
  · exact ⟨4,_,rfl,rfl,by decide,⟨rfl,rfl,rfl,oK⟩⟩
theorem Az {op : Int} (h : ¬(op = 1 ∨ op = 10 ∨ op = 11 ∨ op = 12 ∨ op = 13)) : ∀ e' ∈ fe,op ≠ e'.1 := by
  intro e' he'
  simp only [fe,List.mem_cons,List.not_mem_nil,or_false] at he'
  rcases he' with rfl | rfl | rfl | rfl | rfl <;> simp only [ne_eq] <;> omega
abbrev Dw (op : Int) (ws xs : List Int) (k w : Int) : Ct := ⟨121,[(i6 op),(.agg [(LI ws),(LI xs),(i6 k),(i6 w)])],true,(.tup [(.agg [(aZ op),(.fn (.func (dT op)) [] []),(.fn (.func (dU op)) [] [])]),(i6 (be op ws k w)),(dB (am (be op ws k w)))])⟩
def lg (op : Int) (ws : List Int) (xs : List Int) (k : Int) (w : Int) : St := ⟨[(4,cD),(7,cP),(9,(i6 (be op ws k w)))],[(.var 230 [(LI ws),(LI xs),(i6 k),(i6 w)]),d4,(.var 233 [(aZ op),(.fn (.func (dT op)) [] []),(.fn (.func (dU op)) [] [])])]⟩
def rz (op : Int) (ws : List Int) (xs : List Int) (k : Int) (w : Int) : St := ⟨[(4,cD),(7,cP),(9,(i6 (be op ws k w))),(44,(.agg [(aZ op),(.fn (.func (dT op)) [] []),(.fn (.func (dU op)) [] [])]))],[(.var 230 [(LI ws),(LI xs),(i6 k),(i6 w)]),d4,(.var 233 [(aZ op),(.fn (.func (dT op)) [] []),(.fn (.func (dU op)) [] [])])]⟩
def rA (op : Int) (ws : List Int) (xs : List Int) (k : Int) (w : Int) : St := ⟨[(4,cD),(7,cP),(9,(i6 (be op ws k w))),(45,(i6 (be op ws k w)))],[(.var 230 [(LI ws),(LI xs),(i6 k),(i6 w)]),d4,(.var 233 [(aZ op),(.fn (.func (dT op)) [] []),(.fn (.func (dU op)) [] [])])]⟩
def rB (op : Int) (ws : List Int) (xs : List Int) (k : Int) (w : Int) : St := ⟨[(4,cD),(7,cP),(9,(i6 (be op ws k w))),(46,(i6 (be op ws k w)))],[(.var 230 [(LI ws),(LI xs),(i6 k),(i6 w)]),d4,(.var 233 [(aZ op),(.fn (.func (dT op)) [] []),(.fn (.func (dU op)) [] [])])]⟩
def lh (op : Int) (ws : List Int) (xs : List Int) (k : Int) (w : Int) : St := ⟨[(4,cD),(7,cP),(9,(i6 (be op ws k w))),(44,(.agg [(aZ op),(.fn (.func (dT op)) [] []),(.fn (.func (dU op)) [] [])])),(45,(i6 (be op ws k w)))],[(.var 230 [(LI ws),(LI xs),(i6 k),(i6 w)]),d4,(.var 233 [(aZ op),(.fn (.func (dT op)) [] []),(.fn (.func (dU op)) [] [])])]⟩
def li (op : Int) (ws : List Int) (xs : List Int) (k : Int) (w : Int) : St := ⟨[(4,cD),(7,cP),(9,(i6 (be op ws k w))),(44,(.agg [(aZ op),(.fn (.func (dT op)) [] []),(.fn (.func (dU op)) [] [])])),(46,(i6 (be op ws k w)))],[(.var 230 [(LI ws),(LI xs),(i6 k),(i6 w)]),d4,(.var 233 [(aZ op),(.fn (.func (dT op)) [] []),(.fn (.func (dU op)) [] [])])]⟩
def lj (op : Int) (ws : List Int) (xs : List Int) (k : Int) (w : Int) : St := ⟨[(4,cD),(7,cP),(9,(i6 (be op ws k w))),(45,(i6 (be op ws k w))),(46,(i6 (be op ws k w)))],[(.var 230 [(LI ws),(LI xs),(i6 k),(i6 w)]),d4,(.var 233 [(aZ op),(.fn (.func (dT op)) [] []),(.fn (.func (dU op)) [] [])])]⟩
def rC (op : Int) (ws : List Int) (xs : List Int) (k : Int) (w : Int) : St := ⟨[(4,cD),(7,cP),(9,(i6 (be op ws k w))),(46,(i6 (be op ws k w))),(47,(dB (am (be op ws k w))))],[(.var 230 [(LI ws),(LI xs),(i6 k),(i6 w)]),d4,(.var 233 [(aZ op),(.fn (.func (dT op)) [] []),(.fn (.func (dU op)) [] [])])]⟩
def iU (op : Int) (ws : List Int) (xs : List Int) (k : Int) (w : Int) : St := ⟨[(4,cD),(7,cP),(9,(i6 (be op ws k w))),(44,(.agg [(aZ op),(.fn (.func (dT op)) [] []),(.fn (.func (dU op)) [] [])])),(45,(i6 (be op ws k w))),(46,(i6 (be op ws k w)))],[(.var 230 [(LI ws),(LI xs),(i6 k),(i6 w)]),d4,(.var 233 [(aZ op),(.fn (.func (dT op)) [] []),(.fn (.func (dU op)) [] [])])]⟩
def lk (op : Int) (ws : List Int) (xs : List Int) (k : Int) (w : Int) : St := ⟨[(4,cD),(7,cP),(9,(i6 (be op ws k w))),(44,(.agg [(aZ op),(.fn (.func (dT op)) [] []),(.fn (.func (dU op)) [] [])])),(46,(i6 (be op ws k w))),(47,(dB (am (be op ws k w))))],[(.var 230 [(LI ws),(LI xs),(i6 k),(i6 w)]),d4,(.var 233 [(aZ op),(.fn (.func (dT op)) [] []),(.fn (.func (dU op)) [] [])])]⟩
def jY (op : Int) (ws : List Int) (xs : List Int) (k : Int) (w : Int) : St := ⟨[(4,cD),(7,cP),(9,(i6 (be op ws k w))),(45,(i6 (be op ws k w))),(46,(i6 (be op ws k w))),(47,(dB (am (be op ws k w))))],[(.var 230 [(LI ws),(LI xs),(i6 k),(i6 w)]),d4,(.var 233 [(aZ op),(.fn (.func (dT op)) [] []),(.fn (.func (dU op)) [] [])])]⟩
def gD (op : Int) (ws : List Int) (xs : List Int) (k : Int) (w : Int) : St := ⟨[(4,cD),(7,cP),(9,(i6 (be op ws k w))),(44,(.agg [(aZ op),(.fn (.func (dT op)) [] []),(.fn (.func (dU op)) [] [])])),(45,(i6 (be op ws k w))),(46,(i6 (be op ws k w))),(47,(dB (am (be op ws k w))))],[(.var 230 [(LI ws),(LI xs),(i6 k),(i6 w)]),d4,(.var 233 [(aZ op),(.fn (.func (dT op)) [] []),(.fn (.func (dU op)) [] [])])]⟩
def oY (op : Int) (ws : List Int) (xs : List Int) (k : Int) (w : Int) : St := ⟨[(4,cD),(7,cP),(9,(i6 (be op ws k w))),(44,(.agg [(aZ op),(.fn (.func (dT op)) [] []),(.fn (.func (dU op)) [] [])])),(46,(i6 (be op ws k w))),(47,(dB (am (be op ws k w))))],[(.var 230 [(LI ws),(LI xs),(i6 k),(i6 w)]),(.var 233 [(aZ op),(.fn (.func (dT op)) [] []),(.fn (.func (dU op)) [] [])]),(.var 233 [(aZ op),(.fn (.func (dT op)) [] []),(.fn (.func (dU op)) [] [])])]⟩
def jZ (op : Int) (ws : List Int) (xs : List Int) (k : Int) (w : Int) : St := ⟨[(4,cD),(7,cP),(9,(i6 (be op ws k w))),(44,(.agg [(aZ op),(.fn (.func (dT op)) [] []),(.fn (.func (dU op)) [] [])])),(45,(i6 (be op ws k w))),(46,(i6 (be op ws k w))),(47,(dB (am (be op ws k w))))],[(.var 230 [(LI ws),(LI xs),(i6 k),(i6 w)]),(.var 233 [(aZ op),(.fn (.func (dT op)) [] []),(.fn (.func (dU op)) [] [])]),(.var 233 [(aZ op),(.fn (.func (dT op)) [] []),(.fn (.func (dU op)) [] [])])]⟩
def oZ (op : Int) (ws : List Int) (xs : List Int) (k : Int) (w : Int) : St := ⟨[(4,cD),(5,(i6 (be op ws k w))),(7,cP),(9,(i6 (be op ws k w))),(44,(.agg [(aZ op),(.fn (.func (dT op)) [] []),(.fn (.func (dU op)) [] [])])),(45,(i6 (be op ws k w))),(46,(i6 (be op ws k w))),(47,(dB (am (be op ws k w))))],[(.var 230 [(LI ws),(LI xs),(i6 k),(i6 w)]),(.var 233 [(aZ op),(.fn (.func (dT op)) [] []),(.fn (.func (dU op)) [] [])]),(.var 233 [(aZ op),(.fn (.func (dT op)) [] []),(.fn (.func (dU op)) [] [])])]⟩
def o0 (op : Int) (ws : List Int) (xs : List Int) (k : Int) (w : Int) : St := ⟨[(4,cD),(5,(i6 (be op ws k w))),(6,(dB (am (be op ws k w))))],[(.var 230 [(LI ws),(LI xs),(i6 k),(i6 w)]),(.var 233 [(aZ op),(.fn (.func (dT op)) [] []),(.fn (.func (dU op)) [] [])]),(.var 233 [(aZ op),(.fn (.func (dT op)) [] []),(.fn (.func (dU op)) [] [])])]⟩
def j4 (op : Int) (ws : List Int) (xs : List Int) (k : Int) (w : Int) : St := ⟨[(4,cD),(7,cP),(9,(i6 (be op ws k w)))],[(.var 230 [(LI ws),(LI xs),(i6 k),(i6 w)]),d4,(.var 233 [(aZ op),(.fn (.func (dT op)) [] []),(.fn (.func (dU op)) [] [])])]⟩
def o6 (op : Int) (ws : List Int) (xs : List Int) (k : Int) (w : Int) : St := ⟨[(4,cD),(7,cP),(9,(i6 (be op ws k w))),(44,(.agg [(aZ op),(.fn (.func (dT op)) [] []),(.fn (.func (dU op)) [] [])]))],[(.var 230 [(LI ws),(LI xs),(i6 k),(i6 w)]),d4,(.var 233 [(aZ op),(.fn (.func (dT op)) [] []),(.fn (.func (dU op)) [] [])])]⟩
def o7 (op : Int) (ws : List Int) (xs : List Int) (k : Int) (w : Int) : St := ⟨[(4,cD),(7,cP),(9,(i6 (be op ws k w))),(45,(i6 (be op ws k w)))],[(.var 230 [(LI ws),(LI xs),(i6 k),(i6 w)]),d4,(.var 233 [(aZ op),(.fn (.func (dT op)) [] []),(.fn (.func (dU op)) [] [])])]⟩
def o8 (op : Int) (ws : List Int) (xs : List Int) (k : Int) (w : Int) : St := ⟨[(4,cD),(7,cP),(9,(i6 (be op ws k w))),(46,(i6 (be op ws k w)))],[(.var 230 [(LI ws),(LI xs),(i6 k),(i6 w)]),d4,(.var 233 [(aZ op),(.fn (.func (dT op)) [] []),(.fn (.func (dU op)) [] [])])]⟩
def j5 (op : Int) (ws : List Int) (xs : List Int) (k : Int) (w : Int) : St := ⟨[(4,cD),(7,cP),(9,(i6 (be op ws k w))),(44,(.agg [(aZ op),(.fn (.func (dT op)) [] []),(.fn (.func (dU op)) [] [])])),(45,(i6 (be op ws k w)))],[(.var 230 [(LI ws),(LI xs),(i6 k),(i6 w)]),d4,(.var 233 [(aZ op),(.fn (.func (dT op)) [] []),(.fn (.func (dU op)) [] [])])]⟩
def j6 (op : Int) (ws : List Int) (xs : List Int) (k : Int) (w : Int) : St := ⟨[(4,cD),(7,cP),(9,(i6 (be op ws k w))),(44,(.agg [(aZ op),(.fn (.func (dT op)) [] []),(.fn (.func (dU op)) [] [])])),(46,(i6 (be op ws k w)))],[(.var 230 [(LI ws),(LI xs),(i6 k),(i6 w)]),d4,(.var 233 [(aZ op),(.fn (.func (dT op)) [] []),(.fn (.func (dU op)) [] [])])]⟩
def j7 (op : Int) (ws : List Int) (xs : List Int) (k : Int) (w : Int) : St := ⟨[(4,cD),(7,cP),(9,(i6 (be op ws k w))),(45,(i6 (be op ws k w))),(46,(i6 (be op ws k w)))],[(.var 230 [(LI ws),(LI xs),(i6 k),(i6 w)]),d4,(.var 233 [(aZ op),(.fn (.func (dT op)) [] []),(.fn (.func (dU op)) [] [])])]⟩
def o9 (op : Int) (ws : List Int) (xs : List Int) (k : Int) (w : Int) : St := ⟨[(4,cD),(7,cP),(9,(i6 (be op ws k w))),(46,(i6 (be op ws k w))),(47,(dB (am (be op ws k w))))],[(.var 230 [(LI ws),(LI xs),(i6 k),(i6 w)]),d4,(.var 233 [(aZ op),(.fn (.func (dT op)) [] []),(.fn (.func (dU op)) [] [])])]⟩
def gE (op : Int) (ws : List Int) (xs : List Int) (k : Int) (w : Int) : St := ⟨[(4,cD),(7,cP),(9,(i6 (be op ws k w))),(44,(.agg [(aZ op),(.fn (.func (dT op)) [] []),(.fn (.func (dU op)) [] [])])),(45,(i6 (be op ws k w))),(46,(i6 (be op ws k w)))],[(.var 230 [(LI ws),(LI xs),(i6 k),(i6 w)]),d4,(.var 233 [(aZ op),(.fn (.func (dT op)) [] []),(.fn (.func (dU op)) [] [])])]⟩
def j8 (op : Int) (ws : List Int) (xs : List Int) (k : Int) (w : Int) : St := ⟨[(4,cD),(7,cP),(9,(i6 (be op ws k w))),(44,(.agg [(aZ op),(.fn (.func (dT op)) [] []),(.fn (.func (dU op)) [] [])])),(46,(i6 (be op ws k w))),(47,(dB (am (be op ws k w))))],[(.var 230 [(LI ws),(LI xs),(i6 k),(i6 w)]),d4,(.var 233 [(aZ op),(.fn (.func (dT op)) [] []),(.fn (.func (dU op)) [] [])])]⟩
def jc (op : Int) (ws : List Int) (xs : List Int) (k : Int) (w : Int) : St := ⟨[(4,cD),(7,cP),(9,(i6 (be op ws k w))),(45,(i6 (be op ws k w))),(46,(i6 (be op ws k w))),(47,(dB (am (be op ws k w))))],[(.var 230 [(LI ws),(LI xs),(i6 k),(i6 w)]),d4,(.var 233 [(aZ op),(.fn (.func (dT op)) [] []),(.fn (.func (dU op)) [] [])])]⟩
def fL (op : Int) (ws : List Int) (xs : List Int) (k : Int) (w : Int) : St := ⟨[(4,cD),(7,cP),(9,(i6 (be op ws k w))),(44,(.agg [(aZ op),(.fn (.func (dT op)) [] []),(.fn (.func (dU op)) [] [])])),(45,(i6 (be op ws k w))),(46,(i6 (be op ws k w))),(47,(dB (am (be op ws k w))))],[(.var 230 [(LI ws),(LI xs),(i6 k),(i6 w)]),d4,(.var 233 [(aZ op),(.fn (.func (dT op)) [] []),(.fn (.func (dU op)) [] [])])]⟩
def mZ (op : Int) (ws : List Int) (xs : List Int) (k : Int) (w : Int) : St := ⟨[(4,cD),(7,cP),(9,(i6 (be op ws k w))),(44,(.agg [(aZ op),(.fn (.func (dT op)) [] []),(.fn (.func (dU op)) [] [])])),(46,(i6 (be op ws k w))),(47,(dB (am (be op ws k w))))],[(.var 230 [(LI ws),(LI xs),(i6 k),(i6 w)]),(.var 233 [(aZ op),(.fn (.func (dT op)) [] []),(.fn (.func (dU op)) [] [])]),(.var 233 [(aZ op),(.fn (.func (dT op)) [] []),(.fn (.func (dU op)) [] [])])]⟩
def jd (op : Int) (ws : List Int) (xs : List Int) (k : Int) (w : Int) : St := ⟨[(4,cD),(7,cP),(9,(i6 (be op ws k w))),(44,(.agg [(aZ op),(.fn (.func (dT op)) [] []),(.fn (.func (dU op)) [] [])])),(45,(i6 (be op ws k w))),(46,(i6 (be op ws k w))),(47,(dB (am (be op ws k w))))],[(.var 230 [(LI ws),(LI xs),(i6 k),(i6 w)]),(.var 233 [(aZ op),(.fn (.func (dT op)) [] []),(.fn (.func (dU op)) [] [])]),(.var 233 [(aZ op),(.fn (.func (dT op)) [] []),(.fn (.func (dU op)) [] [])])]⟩
def m5 (op : Int) (ws : List Int) (xs : List Int) (k : Int) (w : Int) : St := ⟨[(4,cD),(5,(i6 (be op ws k w))),(7,cP),(9,(i6 (be op ws k w))),(44,(.agg [(aZ op),(.fn (.func (dT op)) [] []),(.fn (.func (dU op)) [] [])])),(45,(i6 (be op ws k w))),(46,(i6 (be op ws k w))),(47,(dB (am (be op ws k w))))],[(.var 230 [(LI ws),(LI xs),(i6 k),(i6 w)]),(.var 233 [(aZ op),(.fn (.func (dT op)) [] []),(.fn (.func (dU op)) [] [])]),(.var 233 [(aZ op),(.fn (.func (dT op)) [] []),(.fn (.func (dU op)) [] [])])]⟩
def m6 (op : Int) (ws : List Int) (xs : List Int) (k : Int) (w : Int) : St := ⟨[(4,cD),(5,(i6 (be op ws k w))),(6,(dB (am (be op ws k w))))],[(.var 230 [(LI ws),(LI xs),(i6 k),(i6 w)]),(.var 233 [(aZ op),(.fn (.func (dT op)) [] []),(.fn (.func (dU op)) [] [])]),(.var 233 [(aZ op),(.fn (.func (dT op)) [] []),(.fn (.func (dU op)) [] [])])]⟩
theorem v5 (op : Int) (ws xs : List Int) (k w : Int) (hw : ws.length ≤ 9223372036854775807) (h : yX op ws = true) : CC (Dw op ws xs k w) := by
 obtain ⟨h1,h2⟩ := xl h
 have hop := tN h
 refine ah.vc (V := TT 4 (CS (op = 2 ∨ op = 3 ∨ op = 4 ∨ op = 5 ∨ op = 6 ∨ op = 7 ∨ op = 8 ∨ op = 9) (CC xo∧TT 1 ((∃ (j : Nat) (e : Int × Value),eM[j]? = some e∧op = e.1∧(∀ e' ∈ eM.take j,op ≠ e'.1)∧uU (D.ofVal e.2) (.agg [(aZ op),(.fn (.func (dT op)) [] []),(.fn (.func (dU op)) [] [])]))∧TT 18 ((True∧(!decide ((ws.length : Int) = (bk op))) = false)∧TT 2 (CC (Hc ws)∧TT 1 ((!(ws.all am)) = false∧TT 3 (GC (cW op ws xs k w)∧TT 1 ((lg op ws xs k w) = (lg op ws xs k w)∧(((sE (rz op ws xs k w) (True))∧(sE (rA op ws xs k w) (True))∧(sE (rB op ws xs k w) (True))∧True)∧((sE (lh op ws xs k w) (True))∧(sE (li op ws xs k w) (True))∧True)∧((sE (lh op ws xs k w) (True))∧(sE (lj op ws xs k w) (True))∧True)∧((sE (li op ws xs k w) (True))∧(sE (lj op ws xs k w) (True))∧(sE (rC op ws xs k w) (CC (gh (be op ws k w))))∧True)∧((sE (iU op ws xs k w) (True))∧True)∧((sE (iU op ws xs k w) (True))∧(sE (lk op ws xs k w) (CC (gh (be op ws k w))))∧True)∧((sE (iU op ws xs k w) (True))∧(sE (jY op ws xs k w) (CC (gh (be op ws k w))))∧True)∧((sE (lk op ws xs k w) (True))∧(sE (jY op ws xs k w) (True))∧True)∧((sE (gD op ws xs k w) (CC (gh (be op ws k w))))∧True)∧((sE (gD op ws xs k w) (True))∧(sE (oY op ws xs k w) (True))∧True)∧((sE (gD op ws xs k w) (True))∧True)∧((sE (jZ op ws xs k w) (True))∧True)∧((sE (jZ op ws xs k w) (True))∧True)∧((sE (oZ op ws xs k w) (True))∧True)∧((sE (o0 op ws xs k w) (True))∧True)∧True∧True)∧TT 3 (((bk op) = (bk op)∧((.fn (.func (dT op)) [] []) : D) = (.fn (.func (dT op)) [] [])∧((.fn (.func (dU op)) [] []) : D) = (.fn (.func (dU op)) [] [])∧True)∧(be op ws k w) = (be op ws k w)∧(am (be op ws k w)) = (am (be op ws k w))∧True)))))))) (CC xo∧TT 1 ((∀ e' ∈ eM,op ≠ e'.1)∧TT 8 (CC Ay∧TT 1 ((∃ (j : Nat) (e : Int × Value),fe[j]? = some e∧op = e.1∧(∀ e' ∈ fe.take j,op ≠ e'.1)∧uU (D.ofVal e.2) (.agg [(aZ op),(.fn (.func (dT op)) [] []),(.fn (.func (dU op)) [] [])]))∧TT 15 ((True∧(!decide ((ws.length : Int) = (bk op))) = false)∧TT 2 (CC (Hc ws)∧TT 1 ((!(ws.all am)) = false∧TT 3 (GC (cW op ws xs k w)∧TT 1 ((j4 op ws xs k w) = (j4 op ws xs k w)∧(((sE (o6 op ws xs k w) (True))∧(sE (o7 op ws xs k w) (True))∧(sE (o8 op ws xs k w) (True))∧True)∧((sE (j5 op ws xs k w) (True))∧(sE (j6 op ws xs k w) (True))∧True)∧((sE (j5 op ws xs k w) (True))∧(sE (j7 op ws xs k w) (True))∧True)∧((sE (j6 op ws xs k w) (True))∧(sE (j7 op ws xs k w) (True))∧(sE (o9 op ws xs k w) (CC (gh (be op ws k w))))∧True)∧((sE (gE op ws xs k w) (True))∧True)∧((sE (gE op ws xs k w) (True))∧(sE (j8 op ws xs k w) (CC (gh (be op ws k w))))∧True)∧((sE (gE op ws xs k w) (True))∧(sE (jc op ws xs k w) (CC (gh (be op ws k w))))∧True)∧((sE (j8 op ws xs k w) (True))∧(sE (jc op ws xs k w) (True))∧True)∧((sE (fL op ws xs k w) (CC (gh (be op ws k w))))∧True)∧((sE (fL op ws xs k w) (True))∧(sE (mZ op ws xs k w) (True))∧True)∧((sE (fL op ws xs k w) (True))∧True)∧((sE (jd op ws xs k w) (True))∧True)∧((sE (jd op ws xs k w) (True))∧True)∧((sE (m5 op ws xs k w) (True))∧True)∧((sE (m6 op ws xs k w) (True))∧True)∧True∧True)∧TT 3 (((bk op) = (bk op)∧((.fn (.func (dT op)) [] []) : D) = (.fn (.func (dT op)) [] [])∧((.fn (.func (dU op)) [] []) : D) = (.fn (.func (dU op)) [] [])∧True)∧(be op ws k w) = (be op ws k w)∧(am (be op ws k w)) = (am (be op ws k w))∧True)))))))))))) (.s 1 (op = 2 ∨ op = 3 ∨ op = 4 ∨ op = 5 ∨ op = 6 ∨ op = 7 ∨ op = 8 ∨ op = 9) (.w 1 [(0,xo.O),(2,.ent (.agg [(aZ op),(.fn (.func (dT op)) [] []),(.fn (.func (dU op)) [] [])]))] <| .w 4 [(10,.val (dB false)),(13,(Hc ws).O)] <| .u 38 (.w 6 [(3,.callg none false (i6 (be op ws k w)))] <| .y 7 [(3,(gh (be op ws k w)).O)] [((bm 7 0),(lg op ws xs k w)),((bm 7 1),(rz op ws xs k w)),((bm 7 2),(rA op ws xs k w)),((bm 7 4),(rB op ws xs k w)),((bm 7 3),(lh op ws xs k w)),((bm 7 5),(li op ws xs k w)),((bm 7 6),(lj op ws xs k w)),((bm 7 12),(rC op ws xs k w)),((bm 7 7),(iU op ws xs k w)),((bm 7 13),(lk op ws xs k w)),((bm 7 14),(jY op ws xs k w)),((bm 7 15),(gD op ws xs k w)),((bm 7 29),(oY op ws xs k w)),((bm 7 31),(jZ op ws xs k w)),((bm 7 63),(oZ op ws xs k w)),((bm 7 127),(o0 op ws xs k w))] <| .e)) (.w 1 [(0,xo.O),(2,.idx none)] <| .w 3 [(0,Ay.O),(2,.ent (.agg [(aZ op),(.fn (.func (dT op)) [] []),(.fn (.func (dU op)) [] [])]))] <| .w 4 [(10,.val (dB false)),(13,(Hc ws).O)] <| .u 38 (.w 6 [(3,.callg none false (i6 (be op ws k w)))] <| .y 7 [(3,(gh (be op ws k w)).O)] [((bm 7 0),(j4 op ws xs k w)),((bm 7 1),(o6 op ws xs k w)),((bm 7 2),(o7 op ws xs k w)),((bm 7 4),(o8 op ws xs k w)),((bm 7 3),(j5 op ws xs k w)),((bm 7 5),(j6 op ws xs k w)),((bm 7 6),(j7 op ws xs k w)),((bm 7 12),(o9 op ws xs k w)),((bm 7 7),(gE op ws xs k w)),((bm 7 13),(j8 op ws xs k w)),((bm 7 14),(jc op ws xs k w)),((bm 7 15),(fL op ws xs k w)),((bm 7 29),(mZ op ws xs k w)),((bm 7 31),(jd op ws xs k w)),((bm 7 63),(m5 op ws xs k w)),((bm 7 127),(m6 op ws xs k w))] <| .e))) Tryz.func121 rfl rfl rfl (by kernel_rfl) ?_
 refine tt ⟨fun hs0 => ?_,fun hs0 => ?_⟩
 · have hS := hs0
   exact ⟨l7,tt ⟨(tO hS),tt ⟨(nF h1),tt ⟨(iR ws hw),tt ⟨(uV h2),tt ⟨(Ir op ws xs k w h),tt ⟨rfl,⟨⟨⟨⟨rfl,oK,oK⟩,⟨rfl,oK,oK⟩,⟨rfl,oK,oK⟩,oK⟩,⟨⟨rfl,oK,oK⟩,⟨rfl,oK,oK⟩,oK⟩,⟨⟨rfl,oK,oK⟩,⟨rfl,oK,oK⟩,oK⟩,⟨⟨rfl,oK,oK⟩,⟨rfl,oK,oK⟩,⟨rfl,(dG (be op ws k w)),oK⟩,oK⟩,⟨⟨rfl,oK,oK⟩,oK⟩,⟨⟨rfl,oK,oK⟩,⟨rfl,(dG (be op ws k w)),oK⟩,oK⟩,⟨⟨rfl,oK,oK⟩,⟨rfl,(dG (be op ws k w)),oK⟩,oK⟩,⟨⟨rfl,oK,oK⟩,⟨rfl,oK,oK⟩,oK⟩,⟨⟨rfl,(dG (be op ws k w)),oK⟩,oK⟩,⟨⟨rfl,oK,oK⟩,⟨rfl,oK,oK⟩,oK⟩,⟨⟨rfl,oK,oK⟩,oK⟩,⟨⟨rfl,oK,oK⟩,oK⟩,⟨⟨rfl,oK,oK⟩,oK⟩,⟨⟨rfl,oK,oK⟩,oK⟩,⟨⟨rfl,oK,oK⟩,oK⟩,oK,oK⟩,tt ⟨⟨rfl,rfl,rfl,oK⟩,rfl,rfl,oK⟩⟩⟩⟩⟩⟩⟩⟩⟩
 · have hS := hs0
   exact ⟨l7,tt ⟨(tP hS),tt ⟨qD,tt ⟨(tQ (by omega)),tt ⟨(nF h1),tt ⟨(iR ws hw),tt ⟨(uV h2),tt ⟨(Ir op ws xs k w h),tt ⟨rfl,⟨⟨⟨⟨rfl,oK,oK⟩,⟨rfl,oK,oK⟩,⟨rfl,oK,oK⟩,oK⟩,⟨⟨rfl,oK,oK⟩,⟨rfl,oK,oK⟩,oK⟩,⟨⟨rfl,oK,oK⟩,⟨rfl,oK,oK⟩,oK⟩,⟨⟨rfl,oK,oK⟩,⟨rfl,oK,oK⟩,⟨rfl,(dG (be op ws k w)),oK⟩,oK⟩,⟨⟨rfl,oK,oK⟩,oK⟩,⟨⟨rfl,oK,oK⟩,⟨rfl,(dG (be op ws k w)),oK⟩,oK⟩,⟨⟨rfl,oK,oK⟩,⟨rfl,(dG (be op ws k w)),oK⟩,oK⟩,⟨⟨rfl,oK,oK⟩,⟨rfl,oK,oK⟩,oK⟩,⟨⟨rfl,(dG (be op ws k w)),oK⟩,oK⟩,⟨⟨rfl,oK,oK⟩,⟨rfl,oK,oK⟩,oK⟩,⟨⟨rfl,oK,oK⟩,oK⟩,⟨⟨rfl,oK,oK⟩,oK⟩,⟨⟨rfl,oK,oK⟩,oK⟩,⟨⟨rfl,oK,oK⟩,oK⟩,⟨⟨rfl,oK,oK⟩,oK⟩,oK,oK⟩,tt ⟨⟨rfl,rfl,rfl,oK⟩,rfl,rfl,oK⟩⟩⟩⟩⟩⟩⟩⟩⟩⟩⟩
abbrev Dx (op : Int) (ws xs : List Int) (k w : Int) : Ct := ⟨121,[(i6 op),(.agg [(LI ws),(LI xs),(i6 k),(i6 w)])],true,(.tup [(.agg [(i6 0),(.v .nilf),(.v .nilf)]),(i6 0),(dB false)])⟩
theorem v6 (op : Int) (ws xs : List Int) (k w : Int) (hw : ws.length ≤ 9223372036854775807) (h : yX op ws = false) : CC (Dx op ws xs k w) := by
 refine ah.vc (V := TT 4 (CS (op = 2 ∨ op = 3 ∨ op = 4 ∨ op = 5 ∨ op = 6 ∨ op = 7 ∨ op = 8 ∨ op = 9) (CC xo∧TT 1 ((∃ (j : Nat) (e : Int × Value),eM[j]? = some e∧op = e.1∧(∀ e' ∈ eM.take j,op ≠ e'.1)∧uU (D.ofVal e.2) (.agg [(aZ op),(.fn (.func (dT op)) [] []),(.fn (.func (dU op)) [] [])]))∧TT 8 (CS ((ws.length : Int) = (bk op)) (TT 10 ((True∧(!decide ((ws.length : Int) = (bk op))) = false)∧TT 2 (CC (Hc ws)∧TT 1 ((!(ws.all am)) = true∧TT 7 (((0 : Int) = 0∧True∧True∧True)∧(0 : Int) = 0∧false = false∧True))))) (TT 10 ((True∧(!decide ((ws.length : Int) = (bk op))) = true)∧TT 11 (((0 : Int) = 0∧True∧True∧True)∧(0 : Int) = 0∧false = false∧True)))))) (CC xo∧TT 1 ((∀ e' ∈ eM,op ≠ e'.1)∧TT 8 (CS (op = 1 ∨ op = 10 ∨ op = 11 ∨ op = 12 ∨ op = 13) (CC Ay∧TT 1 ((∃ (j : Nat) (e : Int × Value),fe[j]? = some e∧op = e.1∧(∀ e' ∈ fe.take j,op ≠ e'.1)∧uU (D.ofVal e.2) (.agg [(aZ op),(.fn (.func (dT op)) [] []),(.fn (.func (dU op)) [] [])]))∧TT 5 (CS ((ws.length : Int) = (bk op)) (TT 10 ((True∧(!decide ((ws.length : Int) = (bk op))) = false)∧TT 2 (CC (Hc ws)∧TT 1 ((!(ws.all am)) = true∧TT 7 (((0 : Int) = 0∧True∧True∧True)∧(0 : Int) = 0∧false = false∧True))))) (TT 10 ((True∧(!decide ((ws.length : Int) = (bk op))) = true)∧TT 11 (((0 : Int) = 0∧True∧True∧True)∧(0 : Int) = 0∧false = false∧True)))))) (CC Ay∧TT 1 ((∀ e' ∈ fe,op ≠ e'.1)∧TT 27 (((0 : Int) = 0∧True∧True∧True)∧(0 : Int) = 0∧false = false∧True)))))))) (.s 1 (op = 2 ∨ op = 3 ∨ op = 4 ∨ op = 5 ∨ op = 6 ∨ op = 7 ∨ op = 8 ∨ op = 9) (.w 1 [(0,xo.O),(2,.ent (.agg [(aZ op),(.fn (.func (dT op)) [] []),(.fn (.func (dU op)) [] [])]))] <| .s 4 ((ws.length : Int) = (bk op)) (.w 4 [(10,.val (dB false)),(13,(Hc ws).O)] <| .t 38 (.e)) (.w 4 [(10,.val (dB true))] <| .e)) (.w 1 [(0,xo.O),(2,.idx none)] <| .s 3 (op = 1 ∨ op = 10 ∨ op = 11 ∨ op = 12 ∨ op = 13) (.w 3 [(0,Ay.O),(2,.ent (.agg [(aZ op),(.fn (.func (dT op)) [] []),(.fn (.func (dU op)) [] [])]))] <| .s 4 ((ws.length : Int) = (bk op)) (.w 4 [(10,.val (dB false)),(13,(Hc ws).O)] <| .t 38 (.e)) (.w 4 [(10,.val (dB true))] <| .e)) (.w 3 [(0,Ay.O),(2,.idx none)] <| .e))) Tryz.func121 rfl rfl rfl (by kernel_rfl) ?_
 refine tt ⟨fun hs0 => ?_,fun hs0 => ?_⟩
 · have hS := hs0
   refine ⟨l7,tt ⟨(tO hS),tt ⟨fun hs1 => ?_,fun hs1 => ?_⟩⟩⟩
   · exact tt ⟨(nF hs1),tt ⟨(iR ws hw),tt ⟨(Ll (by rcases E6 h with h5 | ⟨_,h5⟩; exact absurd (by assumption) h5; rw [h5]; simp)),tt ⟨⟨rfl,oK,oK,oK⟩,rfl,rfl,oK⟩⟩⟩⟩
   · exact tt ⟨(nT hs1),tt ⟨⟨rfl,oK,oK,oK⟩,rfl,rfl,oK⟩⟩
 · have hS := hs0
   refine ⟨l7,tt ⟨(tP hS),tt ⟨fun hs2 => ?_,fun hs2 => ?_⟩⟩⟩
   · have hO := hs2
     refine ⟨qD,tt ⟨(tQ hO),tt ⟨fun hs3 => ?_,fun hs3 => ?_⟩⟩⟩
     · exact tt ⟨(nF hs3),tt ⟨(iR ws hw),tt ⟨(Ll (by rcases E6 h with h5 | ⟨_,h5⟩; exact absurd (by assumption) h5; rw [h5]; simp)),tt ⟨⟨rfl,oK,oK,oK⟩,rfl,rfl,oK⟩⟩⟩⟩
     · exact tt ⟨(nT hs3),tt ⟨⟨rfl,oK,oK,oK⟩,rfl,rfl,oK⟩⟩
   · have hO := hs2
     exact ⟨qD,tt ⟨(Az hO),tt ⟨⟨rfl,oK,oK,oK⟩,rfl,rfl,oK⟩⟩⟩
theorem nA {op : Int} {ws : List Int} {k w : Int} (h : yX op ws = true) (h2 : am (be op ws k w) = true) : fT op ws k w = true := by rw [Aw,h,h2]; rfl
theorem cu {op : Int} {ws : List Int} {k w : Int} (h : ¬yX op ws = true) : fT op ws k w = false := by rw [Aw,Bool.eq_false_iff.2 h]; rfl
theorem cx {op : Int} {ws : List Int} {k w : Int} (h2 : ¬am (be op ws k w) = true) : fT op ws k w = false := by rw [Aw,Bool.eq_false_iff.2 h2,Bool.and_false]
theorem kI {op : Int} {ws : List Int} {k w : Int} (h : fT op ws k w = false) : 0 = bP op ws k w∧1 = ja op ws k w := by unfold bP ja; rw [h]; exact ⟨rfl,rfl⟩
theorem qE {op : Int} {ws : List Int} {k w : Int} (h : fT op ws k w = true) : be op ws k w = bP op ws k w∧0 = ja op ws k w := by unfold bP ja; rw [h]; exact ⟨rfl,rfl⟩
abbrev Ja (op : Int) (ws : List Int) (k w : Int) : Ct := ⟨119,[(i6 op),(LI ws),(.agg [(i6 k),(i6 w)])],false,(.tup [(i6 (bP op ws k w)),(i6 (ja op ws k w))])⟩
theorem Ff (op : Int) (ws : List Int) (k w : Int) (hw : ws.length ≤ 9223372036854775807) : CC (Ja op ws k w) := by
 refine ah.vc (V := TT 3 (CS (yX op ws = true) (TT 2 (((0 ≤ (0 : Int)∧0 < (2 : Int))∧True)∧TT 1 (((0 ≤ (1 : Int)∧1 < (2 : Int))∧True)∧TT 2 ((wU [] [(i6 op),(.agg [(LI ws),.nils,(i6 k),(i6 w)])] (Dw op ws [] k w).as∧CC (Dw op ws [] k w))∧TT 10 (CB (!(am (be op ws k w))) (TT 4 (((0 : Int) = (bP op ws k w)∧(1 : Int) = (ja op ws k w)∧True)∧(True∧True∧True))) (TT 5 (((be op ws k w) = (bP op ws k w)∧(0 : Int) = (ja op ws k w)∧True)∧(True∧True∧True)))))))) (TT 2 (((0 ≤ (0 : Int)∧0 < (2 : Int))∧True)∧TT 1 (((0 ≤ (1 : Int)∧1 < (2 : Int))∧True)∧TT 2 ((wU [] [(i6 op),(.agg [(LI ws),.nils,(i6 k),(i6 w)])] (Dx op ws [] k w).as∧CC (Dx op ws [] k w))∧TT 14 (((0 : Int) = (bP op ws k w)∧(1 : Int) = (ja op ws k w)∧True)∧(True∧True∧True)))))))) (.s 1 (yX op ws = true) (.w 1 [(7,(Dw op ws [] k w).O')] <| .b 24 (.e) (.e)) (.w 1 [(7,(Dx op ws [] k w).O')] <| .e)) Tryz.func119 rfl rfl rfl (by kernel_rfl) ?_
 refine tt ⟨fun hs0 => ?_,fun hs0 => ?_⟩
 · have hb := hs0
   refine tt ⟨⟨by omega,oK⟩,tt ⟨⟨by omega,oK⟩,tt ⟨⟨⟨rfl,⟨rfl,rfl,rfl,rfl,oK⟩,oK⟩,(v5 op ws [] k w hw hb)⟩,tt ⟨fun hc24 => ?_,fun hc24 => ?_⟩⟩⟩⟩
   · refine tt ⟨⟨?_,?_,oK⟩,⟨oK,oK,oK⟩⟩
     all_goals (first | exact (kI (cu hb)).1 | exact (kI (cu hb)).2 | exact (kI (cx (by simpa using hc24))).1 | exact (kI (cx (by simpa using hc24))).2 | exact (qE (nA hb (by simpa using hc24))).1 | exact (qE (nA hb (by simpa using hc24))).2)
   · refine tt ⟨⟨?_,?_,oK⟩,⟨oK,oK,oK⟩⟩
     all_goals (first | exact (kI (cu hb)).1 | exact (kI (cu hb)).2 | exact (kI (cx (by simpa using hc24))).1 | exact (kI (cx (by simpa using hc24))).2 | exact (qE (nA hb (by simpa using hc24))).1 | exact (qE (nA hb (by simpa using hc24))).2)
 · have hb := hs0
   refine tt ⟨⟨by omega,oK⟩,tt ⟨⟨by omega,oK⟩,tt ⟨⟨⟨rfl,⟨rfl,rfl,rfl,rfl,oK⟩,oK⟩,(v6 op ws [] k w hw (Bool.eq_false_iff.2 hb))⟩,tt ⟨⟨?_,?_,oK⟩,⟨oK,oK,oK⟩⟩⟩⟩⟩
   all_goals (first | exact (kI (cu hb)).1 | exact (kI (cu hb)).2 | exact (kI (cx (by simpa using hc24))).1 | exact (kI (cx (by simpa using hc24))).2 | exact (qE (nA hb (by simpa using hc24))).1 | exact (qE (nA hb (by simpa using hc24))).2)
abbrev Jb (op : Int) (ws xs nums : List Int) : Ct := ⟨118,[(i6 op),(LI ws),(LI xs),(LI nums)],false,(.tup [(i6 (cA op ws xs nums)),(i6 (gg op ws xs nums))])⟩
abbrev pb (op : Int) (ws : List Int) (xs : List Int) (nums : List Int) : Lp (Nat) := iP [1,10,11,44,45,46] 11 (fun (i : Nat) => ⟨[(1,(LI ws)),(10,(.ptr 9 0 0 0)),(11,(.ptr 10 0 0 0)),(44,(LI xs)),(45,(i6 (xs.length : Int))),(46,(i6 (i : Int)))],[.dead,.dead,.dead,.dead,.dead,.dead,.dead,.dead,.dead,(.var 230 [(LI ws),(LI xs),(i6 (nums.getD 0 0)),(i6 (nums.getD 1 0))]),(.var 233 [(aZ op),(.fn (.func (dT op)) [] []),(.fn (.func (dU op)) [] [])])]⟩) (fun (i : Nat) => i ≤ xs.length∧∀ j,j < i → 0 ≤ xs.getD j 0∧xs.getD j 0 ≤ af (ws.getD j 0)) (fun (i : Nat) => xs.length - i)
theorem Fg (op : Int) (ws xs nums : List Int) (hwl : ws.length ≤ 9223372036854775807) (hxl0 : xs.length ≤ 9223372036854775807) : CC (Jb op ws xs nums) := by
 refine ah.vc (V := TT 2 (CS ((nums.length : Int) = 2) (TT 3 ((True∧(!decide ((nums.length : Int) = 2)) = false)∧TT 6 (CN ((xs.length : Int) = (ws.length : Int)) (TT 4 (((0 : Int) = (cA op ws xs nums)∧(1 : Int) = (gg op ws xs nums)∧True)∧(True∧True∧True))) (TT 3 (IX 0 nums.length∧TT 2 (IX 1 nums.length∧TT 4 (CS (yX op ws = true) (TT 2 (CC (Dw op ws xs (nums.getD 0 0) (nums.getD 1 0))∧TT 10 (CB (!(am (be op ws (nums.getD 0 0) (nums.getD 1 0)))) (TT 4 (((0 : Int) = (cA op ws xs nums)∧(1 : Int) = (gg op ws xs nums)∧True)∧(True∧True∧True))) (TT 3 (GO (pb op ws xs nums) 0 (∀ i,(pb op ws xs nums).inv i → TT 1 (CD ((i : Int) < (xs.length : Int)) (TT 1 (IX (i : Int) xs.length∧TT 3 (CS ((xs.getD i 0) < 0) (TT 2 ((True∧(decide ((xs.getD i 0) < 0)) = true)∧TT 12 (((0 : Int) = (cA op ws xs nums)∧(1 : Int) = (gg op ws xs nums)∧True)∧(True∧True∧True)))) (TT 2 ((True∧(decide ((xs.getD i 0) < 0)) = false)∧TT 3 (IX (i : Int) ws.length∧TT 1 (CC (xm (ws.getD i 0))∧TT 2 (CD ((xs.getD i 0) > (af (ws.getD i 0))) (TT 4 (((0 : Int) = (cA op ws xs nums)∧(1 : Int) = (gg op ws xs nums)∧True)∧(True∧True∧True))) (W6 ((i + 1 : Nat) : Int)∧TT 1 (AG (pb op ws xs nums) i (i + 1))))))))))) (TT 3 (GC (cV op ws xs (nums.getD 0 0) (nums.getD 1 0))∧TT 4 (((ij op ws xs (nums.getD 0 0) (nums.getD 1 0)) = (cA op ws xs nums)∧(0 : Int) = (gg op ws xs nums)∧True)∧(True∧True∧True))))))))))) (TT 2 (CC (Dx op ws xs (nums.getD 0 0) (nums.getD 1 0))∧TT 14 (((0 : Int) = (cA op ws xs nums)∧(1 : Int) = (gg op ws xs nums)∧True)∧(True∧True∧True))))))))))) (TT 3 ((True∧(!decide ((nums.length : Int) = 2)) = true)∧TT 10 (((0 : Int) = (cA op ws xs nums)∧(1 : Int) = (gg op ws xs nums)∧True)∧(True∧True∧True)))))) (.s 1 ((nums.length : Int) = 2) (.w 1 [(3,.val (dB false))] <| .b 25 (.e) (.s 4 (yX op ws = true) (.w 4 [(2,(Dw op ws xs (nums.getD 0 0) (nums.getD 1 0)).O)] <| .b 43 (.e) (.l (pb op ws xs nums) 0 (fun i => .b 47 (.s 10 ((xs.getD i 0) < 0) (.w 10 [(2,.val (dB true))] <| .e) (.w 10 [(2,.val (dB false)),(8,(xm (ws.getD i 0)).O)] <| .b 61 (.e) (.w 12 [(0,.val (i6 ((i + 1 : Nat) : Int)))] <| .e))) (.w 13 [(3,.callg none false (i6 (ij op ws xs (nums.getD 0 0) (nums.getD 1 0))))] <| .e)))) (.w 4 [(2,(Dx op ws xs (nums.getD 0 0) (nums.getD 1 0)).O)] <| .e))) (.w 1 [(3,.val (dB true))] <| .e)) Tryz.func118 rfl rfl rfl (by kernel_rfl) ?_
 refine tt ⟨fun hs0 => ?_,fun hs0 => ?_⟩
 · refine tt ⟨(nF hs0),tt (cn (fun hc25 => ?_) (fun hc25 => ?_))⟩
   · refine tt ⟨⟨?_,?_,oK⟩,⟨oK,oK,oK⟩⟩
     all_goals (first | exact (aY (oV (by omega))).1.symm | exact (aY (oV (by omega))).2.symm | exact (aY (oW (by omega))).1.symm | exact (aY (oW (by omega))).2.symm | exact (aY (b3 (cu hb))).1.symm | exact (aY (b3 (cu hb))).2.symm | exact (aY (b3 (cx (by simpa using hc43)))).1.symm | exact (aY (b3 (cx (by simpa using hc43)))).2.symm | exact (aY (iQ (i := i) (by omega) (by omega))).1.symm | exact (aY (iQ (i := i) (by omega) (by omega))).2.symm | exact (dk hl2 hxl hok hin).1.symm | exact (dk hl2 hxl hok hin).2.symm)
   · refine tt ⟨ix,tt ⟨ix,tt ⟨fun hs1 => ?_,fun hs1 => ?_⟩⟩⟩
     · have hb := hs1
       refine tt ⟨(v5 op ws xs (nums.getD 0 0) (nums.getD 1 0) hwl hb),tt ⟨fun hc43 => ?_,fun hc43 => ?_⟩⟩
       · refine tt ⟨⟨?_,?_,oK⟩,⟨oK,oK,oK⟩⟩
         all_goals (first | exact (aY (oV (by omega))).1.symm | exact (aY (oV (by omega))).2.symm | exact (aY (oW (by omega))).1.symm | exact (aY (oW (by omega))).2.symm | exact (aY (b3 (cu hb))).1.symm | exact (aY (b3 (cu hb))).2.symm | exact (aY (b3 (cx (by simpa using hc43)))).1.symm | exact (aY (b3 (cx (by simpa using hc43)))).2.symm | exact (aY (iQ (i := i) (by omega) (by omega))).1.symm | exact (aY (iQ (i := i) (by omega) (by omega))).2.symm | exact (dk hl2 hxl hok hin).1.symm | exact (dk hl2 hxl hok hin).2.symm)
       · refine tt ?_
         have hok := nA hb (by simpa using hc43)
         have hl2 : nums.length = 2 := by omega
         have hxl : xs.length = ws.length := by omega
         refine ⟨rfl,⟨by omega,fun j hj => by omega⟩,?_⟩
         intro i hinv
         obtain ⟨hi,hall⟩ := hinv
         refine tt (cd (fun hc47 => ?_) (fun hc47 => ?_))
         · refine tt ⟨ix,tt ⟨fun hs2 => ?_,fun hs2 => ?_⟩⟩
           · refine tt ⟨(vT hs2),tt ⟨⟨?_,?_,oK⟩,⟨oK,oK,oK⟩⟩⟩
             all_goals (first | exact (aY (oV (by omega))).1.symm | exact (aY (oV (by omega))).2.symm | exact (aY (oW (by omega))).1.symm | exact (aY (oW (by omega))).2.symm | exact (aY (b3 (cu hb))).1.symm | exact (aY (b3 (cu hb))).2.symm | exact (aY (b3 (cx (by simpa using hc43)))).1.symm | exact (aY (b3 (cx (by simpa using hc43)))).2.symm | exact (aY (iQ (i := i) (by omega) (by omega))).1.symm | exact (aY (iQ (i := i) (by omega) (by omega))).2.symm | exact (dk hl2 hxl hok hin).1.symm | exact (dk hl2 hxl hok hin).2.symm)
           · refine tt ⟨(vF hs2),tt ⟨ix,tt ⟨(sr (ws.getD i 0)),tt (cd (fun hc61 => ?_) (fun hc61 => ?_))⟩⟩⟩
             · refine tt ⟨⟨?_,?_,oK⟩,⟨oK,oK,oK⟩⟩
               all_goals (first | exact (aY (oV (by omega))).1.symm | exact (aY (oV (by omega))).2.symm | exact (aY (oW (by omega))).1.symm | exact (aY (oW (by omega))).2.symm | exact (aY (b3 (cu hb))).1.symm | exact (aY (b3 (cu hb))).2.symm | exact (aY (b3 (cx (by simpa using hc43)))).1.symm | exact (aY (b3 (cx (by simpa using hc43)))).2.symm | exact (aY (iQ (i := i) (by omega) (by omega))).1.symm | exact (aY (iQ (i := i) (by omega) (by omega))).2.symm | exact (dk hl2 hxl hok hin).1.symm | exact (dk hl2 hxl hok hin).2.symm)
             · refine ⟨w6,tt ⟨(i + 1),rfl,?_,(?_ : xs.length - (i + 1) < xs.length - i)⟩⟩
               · exact ⟨by omega,cK hall ⟨by omega,by omega⟩⟩
               · omega
         · have hin : yV ws xs = true := E5 (fun j hj => hall j (by omega))
           refine tt ⟨(Ks op ws xs _ _ hok hxl hin),tt ⟨⟨?_,?_,oK⟩,⟨oK,oK,oK⟩⟩⟩
           all_goals (first | exact (aY (oV (by omega))).1.symm | exact (aY (oV (by omega))).2.symm | exact (aY (oW (by omega))).1.symm | exact (aY (oW (by omega))).2.symm | exact (aY (b3 (cu hb))).1.symm | exact (aY (b3 (cu hb))).2.symm | exact (aY (b3 (cx (by simpa using hc43)))).1.symm | exact (aY (b3 (cx (by simpa using hc43)))).2.symm | exact (aY (iQ (i := i) (by omega) (by omega))).1.symm | exact (aY (iQ (i := i) (by omega) (by omega))).2.symm | exact (dk hl2 hxl hok hin).1.symm | exact (dk hl2 hxl hok hin).2.symm)
     · have hb := hs1
       refine tt ⟨(v6 op ws xs (nums.getD 0 0) (nums.getD 1 0) hwl (Bool.eq_false_iff.2 hb)),tt ⟨⟨?_,?_,oK⟩,⟨oK,oK,oK⟩⟩⟩
       all_goals (first | exact (aY (oV (by omega))).1.symm | exact (aY (oV (by omega))).2.symm | exact (aY (oW (by omega))).1.symm | exact (aY (oW (by omega))).2.symm | exact (aY (b3 (cu hb))).1.symm | exact (aY (b3 (cu hb))).2.symm | exact (aY (b3 (cx (by simpa using hc43)))).1.symm | exact (aY (b3 (cx (by simpa using hc43)))).2.symm | exact (aY (iQ (i := i) (by omega) (by omega))).1.symm | exact (aY (iQ (i := i) (by omega) (by omega))).2.symm | exact (dk hl2 hxl hok hin).1.symm | exact (dk hl2 hxl hok hin).2.symm)
 · refine tt ⟨(nT hs0),tt ⟨⟨?_,?_,oK⟩,⟨oK,oK,oK⟩⟩⟩
   all_goals (first | exact (aY (oV (by omega))).1.symm | exact (aY (oV (by omega))).2.symm | exact (aY (oW (by omega))).1.symm | exact (aY (oW (by omega))).2.symm | exact (aY (b3 (cu hb))).1.symm | exact (aY (b3 (cu hb))).2.symm | exact (aY (b3 (cx (by simpa using hc43)))).1.symm | exact (aY (b3 (cx (by simpa using hc43)))).2.symm | exact (aY (iQ (i := i) (by omega) (by omega))).1.symm | exact (aY (iQ (i := i) (by omega) (by omega))).2.symm | exact (dk hl2 hxl hok hin).1.symm | exact (dk hl2 hxl hok hin).2.symm)
end Go.Proofs.YtgmpoenfoacofaaGreat
