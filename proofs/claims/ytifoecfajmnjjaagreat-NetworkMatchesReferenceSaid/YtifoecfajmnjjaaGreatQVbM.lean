/-
  Package bits: the tables of operators; Width, Apply.
-/
import Derived.Test.YtifoecfajmnjjaaGreatQVbB
import Derived.Test.YtifoecfajmnjjaaGreatQMap
namespace Go.Proofs.YtifoecfajmnjjaaGreat
open Go.RowKit
set_option linter.unusedVariables false
set_option linter.unusedSimpArgs false
abbrev dX : aE := (.var 209 [(i6 0),(.v .nilf),(.v .nilf)])
abbrev ba (op : Int) : D := (i6 (bk op))
abbrev cD : D := (.ptr 1 0 0 0)
abbrev cR : D := (.ptr 2 0 0 0)
set_option maxRecDepth 100000
def eO : List (Int × Value) := [(2,.agg #[.int .i64 1,.func (.func 122) #[] #[],.func (.func 123) #[] #[]]),(3,.agg #[.int .i64 2,.func (.func 125) #[] #[],.func (.func 126) #[] #[]]),(4,.agg #[.int .i64 2,.func (.func 125) #[] #[],.func (.func 127) #[] #[]]),(5,.agg #[.int .i64 2,.func (.func 125) #[] #[],.func (.func 128) #[] #[]]),(6,.agg #[.int .i64 2,.func (.func 125) #[] #[],.func (.func 129) #[] #[]]),(7,.agg #[.int .i64 2,.func (.func 125) #[] #[],.func (.func 130) #[] #[]]),(8,.agg #[.int .i64 2,.func (.func 131) #[] #[],.func (.func 132) #[] #[]]),(9,.agg #[.int .i64 2,.func (.func 131) #[] #[],.func (.func 134) #[] #[]])]
set_option maxHeartbeats 800000 in
theorem wn (w : World) : Calls Tryz.prog 118 #[] w (fun e w' => ∃ arr : Array MapEntry,e = .returned (.map (some w.heap.size))∧w' = w.alloc (.map arr 8)∧arr.toList.map (fun e => (e.key,e.val)) = eO.map (fun e => (Value.int .i64 e.1,e.2))) := by
  go_enter Tryz.func118,Tryz.ntmps118
  go_wp2_with (first | (rw [rt]) | (rw [s7 Tryz.underlying213 Tryz.underlying3 (by rfl)]))
  go_ret
  exact ⟨_,rfl,rfl,rfl⟩
abbrev wo : Ct := ⟨118,[],false,.v (.mp eO)⟩
theorem mh : CC wo := ai.of_map wn
def fo : List (Int × Value) := [(1,.agg #[.int .i64 0,.func (.func 135) #[] #[],.func (.func 136) #[] #[]]),(10,.agg #[.int .i64 3,.func (.func 137) #[] #[],.func (.func 138) #[] #[]]),(11,.agg #[.int .i64 2,.func (.func 139) #[] #[],.func (.func 140) #[] #[]]),(12,.agg #[.int .i64 1,.func (.func 141) #[] #[],.func (.func 142) #[] #[]]),(13,.agg #[.int .i64 1,.func (.func 143) #[] #[],.func (.func 144) #[] #[]])]
set_option maxHeartbeats 800000 in
theorem wp (w : World) : Calls Tryz.prog 119 #[] w (fun e w' => ∃ arr : Array MapEntry,e = .returned (.map (some w.heap.size))∧w' = w.alloc (.map arr 5)∧arr.toList.map (fun e => (e.key,e.val)) = fo.map (fun e => (Value.int .i64 e.1,e.2))) := by
  go_enter Tryz.func119,Tryz.ntmps119
  go_wp2_with (first | (rw [rt]) | (rw [s7 Tryz.underlying213 Tryz.underlying3 (by rfl)]))
  go_ret
  exact ⟨_,rfl,rfl,rfl⟩
abbrev zF : Ct := ⟨119,[],false,.v (.mp fo)⟩
theorem qJ : CC zF := ai.of_map wp
def dP (op : Int) : Nat :=
  if op = 1 then 135 else
  if op = 2 then 122 else
  if op = 3 then 125 else
  if op = 4 then 125 else
  if op = 5 then 125 else
  if op = 6 then 125 else
  if op = 7 then 125 else
  if op = 8 then 131 else
  if op = 9 then 131 else
  if op = 10 then 137 else
  if op = 11 then 139 else
  if op = 12 then 141 else
  if op = 13 then 143 else 0
def dQ (op : Int) : Nat :=
  if op = 1 then 136 else
  if op = 2 then 123 else
  if op = 3 then 126 else
  if op = 4 then 127 else
  if op = 5 then 128 else
  if op = 6 then 129 else
  if op = 7 then 130 else
  if op = 8 then 132 else
  if op = 9 then 134 else
  if op = 10 then 138 else
  if op = 11 then 140 else
  if op = 12 then 142 else
  if op = 13 then 144 else 0
abbrev cW (op : Int) (ws xs : List Int) (k w : Int) : Ct := ⟨dP op,[(.agg [(LI ws),(LI xs),(i6 k),(i6 w)])],false,i6 (bi op ws k w)⟩
abbrev cV (op : Int) (ws xs : List Int) (k w : Int) : Ct := ⟨dQ op,[(.agg [(LI ws),(LI xs),(i6 k),(i6 w)])],false,i6 (it op ws xs k w)⟩
theorem s9 {op : Int} {ws : List Int} (h : xT op ws = true) : op = 1 ∨ op = 2 ∨ op = 3 ∨ op = 4 ∨ op = 5 ∨ op = 6 ∨ op = 7 ∨ op = 8 ∨ op = 9 ∨ op = 10 ∨ op = 11 ∨ op = 12 ∨ op = 13 := by
  have h1 := (wm h).1
  by_cases hr : op < 1 ∨ 13 < op
  · have : bk op = -1 := by unfold bk; rw [if_neg (by omega),if_neg (by omega),if_neg (by omega),if_neg (by omega)]
    omega
  · omega
theorem GW (op : Int) (ws xs : List Int) (k w : Int) (h : xT op ws = true) : GC (cW op ws xs k w) := by
  obtain ⟨h1,hf⟩ := wm h
  rcases s9 h with rfl | rfl | rfl | rfl | rfl | rfl | rfl | rfl | rfl | rfl | rfl | rfl | rfl
  · (have hl : (ws.length : Int) = 0 := h1); exact ⟨by kernel_rfl,Cj ws xs k w (by omega) hf⟩
  · (have hl : (ws.length : Int) = 1 := h1); exact ⟨by kernel_rfl,D6 ws xs k w (by omega) hf⟩
  · (have hl : (ws.length : Int) = 2 := h1); exact ⟨by kernel_rfl,jx ws xs k w (by omega) hf⟩
  · (have hl : (ws.length : Int) = 2 := h1); exact ⟨by kernel_rfl,jx ws xs k w (by omega) hf⟩
  · (have hl : (ws.length : Int) = 2 := h1); exact ⟨by kernel_rfl,jx ws xs k w (by omega) hf⟩
  · (have hl : (ws.length : Int) = 2 := h1); exact ⟨by kernel_rfl,jx ws xs k w (by omega) hf⟩
  · (have hl : (ws.length : Int) = 2 := h1); exact ⟨by kernel_rfl,jx ws xs k w (by omega) hf⟩
  · (have hl : (ws.length : Int) = 2 := h1); exact ⟨by kernel_rfl,D7 ws xs k w (by omega) hf⟩
  · (have hl : (ws.length : Int) = 2 := h1); exact ⟨by kernel_rfl,D7 ws xs k w (by omega) hf⟩
  · (have hl : (ws.length : Int) = 3 := h1); exact ⟨by kernel_rfl,F0 ws xs k w (by omega) hf⟩
  · (have hl : (ws.length : Int) = 2 := h1); exact ⟨by kernel_rfl,F1 ws xs k w (by omega) hf⟩
  · (have hl : (ws.length : Int) = 1 := h1); exact ⟨by kernel_rfl,Ck ws xs k w (by omega) hf⟩
  · (have hl : (ws.length : Int) = 1 := h1); exact ⟨by kernel_rfl,F2 ws xs k w (by omega) hf⟩
theorem I2 (op : Int) (ws xs : List Int) (k w : Int) (h : gi op ws k w = true) (hx : xs.length = ws.length) (hin : xR ws xs = true) : GC (cV op ws xs k w) := by
  obtain ⟨h1,hf,h3⟩ := jm h
  have hb : xT op ws = true := by unfold xT; rw [decide_eq_true h1,hf]; rfl
  rcases s9 hb with rfl | rfl | rfl | rfl | rfl | rfl | rfl | rfl | rfl | rfl | rfl | rfl | rfl
  · (have hl : (ws.length : Int) = 0 := h1); exact ⟨by kernel_rfl,D8 ws xs k w ⟨by omega,hf,hx,hin⟩⟩
  · (have hl : (ws.length : Int) = 1 := h1); exact ⟨by kernel_rfl,Hp ws xs k w ⟨by omega,hf,hx,hin⟩⟩
  · (have hl : (ws.length : Int) = 2 := h1); exact ⟨by kernel_rfl,Hq ws xs k w ⟨by omega,hf,hx,hin⟩⟩
  · (have hl : (ws.length : Int) = 2 := h1); exact ⟨by kernel_rfl,IZ ws xs k w ⟨by omega,hf,hx,hin⟩⟩
  · (have hl : (ws.length : Int) = 2 := h1); exact ⟨by kernel_rfl,Hr ws xs k w ⟨by omega,hf,hx,hin⟩⟩
  · (have hl : (ws.length : Int) = 2 := h1); exact ⟨by kernel_rfl,Hs ws xs k w ⟨by omega,hf,hx,hin⟩⟩
  · (have hl : (ws.length : Int) = 2 := h1); exact ⟨by kernel_rfl,Ht ws xs k w ⟨by omega,hf,hx,hin⟩⟩
  · (have hl : (ws.length : Int) = 2 := h1); exact ⟨by kernel_rfl,I0 ws xs k w ⟨by omega,hf,hx,hin⟩⟩
  · (have hl : (ws.length : Int) = 2 := h1); exact ⟨by kernel_rfl,I1 ws xs k w ⟨by omega,hf,hx,hin⟩⟩
  · (have hl : (ws.length : Int) = 3 := h1); exact ⟨by kernel_rfl,Hv ws xs k w ⟨by omega,hf,hx,hin⟩ (wj h)⟩
  · (have hl : (ws.length : Int) = 2 := h1); exact ⟨by kernel_rfl,Hw ws xs k w ⟨by omega,hf,hx,hin⟩⟩
  · (have hl : (ws.length : Int) = 1 := h1); exact ⟨by kernel_rfl,D9 ws xs k w ⟨by omega,hf,hx,hin⟩ (wk h)⟩
  · (have hl : (ws.length : Int) = 1 := h1); exact ⟨by kernel_rfl,Hu ws xs k w ⟨by omega,hf,hx,hin⟩⟩
theorem ta {op : Int} (h : op = 2 ∨ op = 3 ∨ op = 4 ∨ op = 5 ∨ op = 6 ∨ op = 7 ∨ op = 8 ∨ op = 9) : ∃ (j : Nat) (e : Int × Value),eO[j]? = some e∧op = e.1∧(∀ e' ∈ eO.take j,op ≠ e'.1)∧tV (D.ofVal e.2) (.agg [(ba op),(.fn (.func (dP op)) [] []),(.fn (.func (dQ op)) [] [])]) := by
  rcases h with rfl | rfl | rfl | rfl | rfl | rfl | rfl | rfl
  · exact ⟨0,_,rfl,rfl,by decide,⟨rfl,rfl,rfl,oK⟩⟩
  · exact ⟨1,_,rfl,rfl,by decide,⟨rfl,rfl,rfl,oK⟩⟩
  · exact ⟨2,_,rfl,rfl,by decide,⟨rfl,rfl,rfl,oK⟩⟩
  · exact ⟨3,_,rfl,rfl,by decide,⟨rfl,rfl,rfl,oK⟩⟩
  · exact ⟨4,_,rfl,rfl,by decide,⟨rfl,rfl,rfl,oK⟩⟩
  · exact ⟨5,_,rfl,rfl,by decide,⟨rfl,rfl,rfl,oK⟩⟩
  · exact ⟨6,_,rfl,rfl,by decide,⟨rfl,rfl,rfl,oK⟩⟩
  · exact ⟨7,_,rfl,rfl,by decide,⟨rfl,rfl,rfl,oK⟩⟩
theorem tb {op : Int} (h : ¬(op = 2 ∨ op = 3 ∨ op = 4 ∨ op = 5 ∨ op = 6 ∨ op = 7 ∨ op = 8 ∨ op = 9)) : ∀ e' ∈ eO,op ≠ e'.1 := by
  intro e' he'
  simp only [eO,List.mem_cons,List.not_mem_nil,or_false] at he'
  rcases he' with rfl | rfl | rfl | rfl | rfl | rfl | rfl | rfl <;> simp only [ne_eq] <;> omega
theorem tc {op : Int} (h : op = 1 ∨ op = 10 ∨ op = 11 ∨ op = 12 ∨ op = 13) : ∃ (j : Nat) (e : Int × Value),fo[j]? = some e∧op = e.1∧(∀ e' ∈ fo.take j,op ≠ e'.1)∧tV (D.ofVal e.2) (.agg [(ba op),(.fn (.func (dP op)) [] []),(.fn (.func (dQ op)) [] [])]) := by
  rcases h with rfl | rfl | rfl | rfl | rfl
  · exact ⟨0,_,rfl,rfl,by decide,⟨rfl,rfl,rfl,oK⟩⟩
  · exact ⟨1,_,rfl,rfl,by decide,⟨rfl,rfl,rfl,oK⟩⟩
  · exact ⟨2,_,rfl,rfl,by decide,⟨rfl,rfl,rfl,oK⟩⟩
  · exact ⟨3,_,rfl,rfl,by decide,⟨rfl,rfl,rfl,oK⟩⟩
  · exact ⟨4,_,rfl,rfl,by decide,⟨rfl,rfl,rfl,oK⟩⟩
theorem zG {op : Int} (h : ¬(op = 1 ∨ op = 10 ∨ op = 11 ∨ op = 12 ∨ op = 13)) : ∀ e' ∈ fo,op ≠ e'.1 := by
  intro e' he'
  simp only [fo,List.mem_cons,List.not_mem_nil,or_false] at he'
  rcases he' with rfl | rfl | rfl | rfl | rfl <;> simp only [ne_eq] <;> omega
abbrev Cm (op : Int) (ws xs : List Int) (k w : Int) : Ct := ⟨117,[(i6 op),(.agg [(LI ws),(LI xs),(i6 k),(i6 w)])],true,(.tup [(.agg [(ba op),(.fn (.func (dP op)) [] []),(.fn (.func (dQ op)) [] [])]),(i6 (bi op ws k w)),(dB (au (bi op ws k w)))])⟩
def ly (op : Int) (ws : List Int) (xs : List Int) (k : Int) (w : Int) : St := ⟨[(4,cD),(7,cR),(9,(i6 (bi op ws k w)))],[(.var 206 [(LI ws),(LI xs),(i6 k),(i6 w)]),dX,(.var 209 [(ba op),(.fn (.func (dP op)) [] []),(.fn (.func (dQ op)) [] [])])]⟩
def ru (op : Int) (ws : List Int) (xs : List Int) (k : Int) (w : Int) : St := ⟨[(4,cD),(7,cR),(9,(i6 (bi op ws k w))),(44,(.agg [(ba op),(.fn (.func (dP op)) [] []),(.fn (.func (dQ op)) [] [])]))],[(.var 206 [(LI ws),(LI xs),(i6 k),(i6 w)]),dX,(.var 209 [(ba op),(.fn (.func (dP op)) [] []),(.fn (.func (dQ op)) [] [])])]⟩
def rx (op : Int) (ws : List Int) (xs : List Int) (k : Int) (w : Int) : St := ⟨[(4,cD),(7,cR),(9,(i6 (bi op ws k w))),(45,(i6 (bi op ws k w)))],[(.var 206 [(LI ws),(LI xs),(i6 k),(i6 w)]),dX,(.var 209 [(ba op),(.fn (.func (dP op)) [] []),(.fn (.func (dQ op)) [] [])])]⟩
def ry (op : Int) (ws : List Int) (xs : List Int) (k : Int) (w : Int) : St := ⟨[(4,cD),(7,cR),(9,(i6 (bi op ws k w))),(46,(i6 (bi op ws k w)))],[(.var 206 [(LI ws),(LI xs),(i6 k),(i6 w)]),dX,(.var 209 [(ba op),(.fn (.func (dP op)) [] []),(.fn (.func (dQ op)) [] [])])]⟩
def lz (op : Int) (ws : List Int) (xs : List Int) (k : Int) (w : Int) : St := ⟨[(4,cD),(7,cR),(9,(i6 (bi op ws k w))),(44,(.agg [(ba op),(.fn (.func (dP op)) [] []),(.fn (.func (dQ op)) [] [])])),(45,(i6 (bi op ws k w)))],[(.var 206 [(LI ws),(LI xs),(i6 k),(i6 w)]),dX,(.var 209 [(ba op),(.fn (.func (dP op)) [] []),(.fn (.func (dQ op)) [] [])])]⟩
def lA (op : Int) (ws : List Int) (xs : List Int) (k : Int) (w : Int) : St := ⟨[(4,cD),(7,cR),(9,(i6 (bi op ws k w))),(44,(.agg [(ba op),(.fn (.func (dP op)) [] []),(.fn (.func (dQ op)) [] [])])),(46,(i6 (bi op ws k w)))],[(.var 206 [(LI ws),(LI xs),(i6 k),(i6 w)]),dX,(.var 209 [(ba op),(.fn (.func (dP op)) [] []),(.fn (.func (dQ op)) [] [])])]⟩
def lC (op : Int) (ws : List Int) (xs : List Int) (k : Int) (w : Int) : St := ⟨[(4,cD),(7,cR),(9,(i6 (bi op ws k w))),(45,(i6 (bi op ws k w))),(46,(i6 (bi op ws k w)))],[(.var 206 [(LI ws),(LI xs),(i6 k),(i6 w)]),dX,(.var 209 [(ba op),(.fn (.func (dP op)) [] []),(.fn (.func (dQ op)) [] [])])]⟩
def rz (op : Int) (ws : List Int) (xs : List Int) (k : Int) (w : Int) : St := ⟨[(4,cD),(7,cR),(9,(i6 (bi op ws k w))),(46,(i6 (bi op ws k w))),(47,(dB (au (bi op ws k w))))],[(.var 206 [(LI ws),(LI xs),(i6 k),(i6 w)]),dX,(.var 209 [(ba op),(.fn (.func (dP op)) [] []),(.fn (.func (dQ op)) [] [])])]⟩
def i9 (op : Int) (ws : List Int) (xs : List Int) (k : Int) (w : Int) : St := ⟨[(4,cD),(7,cR),(9,(i6 (bi op ws k w))),(44,(.agg [(ba op),(.fn (.func (dP op)) [] []),(.fn (.func (dQ op)) [] [])])),(45,(i6 (bi op ws k w))),(46,(i6 (bi op ws k w)))],[(.var 206 [(LI ws),(LI xs),(i6 k),(i6 w)]),dX,(.var 209 [(ba op),(.fn (.func (dP op)) [] []),(.fn (.func (dQ op)) [] [])])]⟩
def lD (op : Int) (ws : List Int) (xs : List Int) (k : Int) (w : Int) : St := ⟨[(4,cD),(7,cR),(9,(i6 (bi op ws k w))),(44,(.agg [(ba op),(.fn (.func (dP op)) [] []),(.fn (.func (dQ op)) [] [])])),(46,(i6 (bi op ws k w))),(47,(dB (au (bi op ws k w))))],[(.var 206 [(LI ws),(LI xs),(i6 k),(i6 w)]),dX,(.var 209 [(ba op),(.fn (.func (dP op)) [] []),(.fn (.func (dQ op)) [] [])])]⟩
def jX (op : Int) (ws : List Int) (xs : List Int) (k : Int) (w : Int) : St := ⟨[(4,cD),(7,cR),(9,(i6 (bi op ws k w))),(45,(i6 (bi op ws k w))),(46,(i6 (bi op ws k w))),(47,(dB (au (bi op ws k w))))],[(.var 206 [(LI ws),(LI xs),(i6 k),(i6 w)]),dX,(.var 209 [(ba op),(.fn (.func (dP op)) [] []),(.fn (.func (dQ op)) [] [])])]⟩
def gQ (op : Int) (ws : List Int) (xs : List Int) (k : Int) (w : Int) : St := ⟨[(4,cD),(7,cR),(9,(i6 (bi op ws k w))),(44,(.agg [(ba op),(.fn (.func (dP op)) [] []),(.fn (.func (dQ op)) [] [])])),(45,(i6 (bi op ws k w))),(46,(i6 (bi op ws k w))),(47,(dB (au (bi op ws k w))))],[(.var 206 [(LI ws),(LI xs),(i6 k),(i6 w)]),dX,(.var 209 [(ba op),(.fn (.func (dP op)) [] []),(.fn (.func (dQ op)) [] [])])]⟩
def ph (op : Int) (ws : List Int) (xs : List Int) (k : Int) (w : Int) : St := ⟨[(4,cD),(7,cR),(9,(i6 (bi op ws k w))),(44,(.agg [(ba op),(.fn (.func (dP op)) [] []),(.fn (.func (dQ op)) [] [])])),(46,(i6 (bi op ws k w))),(47,(dB (au (bi op ws k w))))],[(.var 206 [(LI ws),(LI xs),(i6 k),(i6 w)]),(.var 209 [(ba op),(.fn (.func (dP op)) [] []),(.fn (.func (dQ op)) [] [])]),(.var 209 [(ba op),(.fn (.func (dP op)) [] []),(.fn (.func (dQ op)) [] [])])]⟩
def jY (op : Int) (ws : List Int) (xs : List Int) (k : Int) (w : Int) : St := ⟨[(4,cD),(7,cR),(9,(i6 (bi op ws k w))),(44,(.agg [(ba op),(.fn (.func (dP op)) [] []),(.fn (.func (dQ op)) [] [])])),(45,(i6 (bi op ws k w))),(46,(i6 (bi op ws k w))),(47,(dB (au (bi op ws k w))))],[(.var 206 [(LI ws),(LI xs),(i6 k),(i6 w)]),(.var 209 [(ba op),(.fn (.func (dP op)) [] []),(.fn (.func (dQ op)) [] [])]),(.var 209 [(ba op),(.fn (.func (dP op)) [] []),(.fn (.func (dQ op)) [] [])])]⟩
def pi (op : Int) (ws : List Int) (xs : List Int) (k : Int) (w : Int) : St := ⟨[(4,cD),(5,(i6 (bi op ws k w))),(7,cR),(9,(i6 (bi op ws k w))),(44,(.agg [(ba op),(.fn (.func (dP op)) [] []),(.fn (.func (dQ op)) [] [])])),(45,(i6 (bi op ws k w))),(46,(i6 (bi op ws k w))),(47,(dB (au (bi op ws k w))))],[(.var 206 [(LI ws),(LI xs),(i6 k),(i6 w)]),(.var 209 [(ba op),(.fn (.func (dP op)) [] []),(.fn (.func (dQ op)) [] [])]),(.var 209 [(ba op),(.fn (.func (dP op)) [] []),(.fn (.func (dQ op)) [] [])])]⟩
def pj (op : Int) (ws : List Int) (xs : List Int) (k : Int) (w : Int) : St := ⟨[(4,cD),(5,(i6 (bi op ws k w))),(6,(dB (au (bi op ws k w))))],[(.var 206 [(LI ws),(LI xs),(i6 k),(i6 w)]),(.var 209 [(ba op),(.fn (.func (dP op)) [] []),(.fn (.func (dQ op)) [] [])]),(.var 209 [(ba op),(.fn (.func (dP op)) [] []),(.fn (.func (dQ op)) [] [])])]⟩
def jZ (op : Int) (ws : List Int) (xs : List Int) (k : Int) (w : Int) : St := ⟨[(4,cD),(7,cR),(9,(i6 (bi op ws k w)))],[(.var 206 [(LI ws),(LI xs),(i6 k),(i6 w)]),dX,(.var 209 [(ba op),(.fn (.func (dP op)) [] []),(.fn (.func (dQ op)) [] [])])]⟩
def pk (op : Int) (ws : List Int) (xs : List Int) (k : Int) (w : Int) : St := ⟨[(4,cD),(7,cR),(9,(i6 (bi op ws k w))),(44,(.agg [(ba op),(.fn (.func (dP op)) [] []),(.fn (.func (dQ op)) [] [])]))],[(.var 206 [(LI ws),(LI xs),(i6 k),(i6 w)]),dX,(.var 209 [(ba op),(.fn (.func (dP op)) [] []),(.fn (.func (dQ op)) [] [])])]⟩
def pm (op : Int) (ws : List Int) (xs : List Int) (k : Int) (w : Int) : St := ⟨[(4,cD),(7,cR),(9,(i6 (bi op ws k w))),(45,(i6 (bi op ws k w)))],[(.var 206 [(LI ws),(LI xs),(i6 k),(i6 w)]),dX,(.var 209 [(ba op),(.fn (.func (dP op)) [] []),(.fn (.func (dQ op)) [] [])])]⟩
def pn (op : Int) (ws : List Int) (xs : List Int) (k : Int) (w : Int) : St := ⟨[(4,cD),(7,cR),(9,(i6 (bi op ws k w))),(46,(i6 (bi op ws k w)))],[(.var 206 [(LI ws),(LI xs),(i6 k),(i6 w)]),dX,(.var 209 [(ba op),(.fn (.func (dP op)) [] []),(.fn (.func (dQ op)) [] [])])]⟩
def j7 (op : Int) (ws : List Int) (xs : List Int) (k : Int) (w : Int) : St := ⟨[(4,cD),(7,cR),(9,(i6 (bi op ws k w))),(44,(.agg [(ba op),(.fn (.func (dP op)) [] []),(.fn (.func (dQ op)) [] [])])),(45,(i6 (bi op ws k w)))],[(.var 206 [(LI ws),(LI xs),(i6 k),(i6 w)]),dX,(.var 209 [(ba op),(.fn (.func (dP op)) [] []),(.fn (.func (dQ op)) [] [])])]⟩
def j8 (op : Int) (ws : List Int) (xs : List Int) (k : Int) (w : Int) : St := ⟨[(4,cD),(7,cR),(9,(i6 (bi op ws k w))),(44,(.agg [(ba op),(.fn (.func (dP op)) [] []),(.fn (.func (dQ op)) [] [])])),(46,(i6 (bi op ws k w)))],[(.var 206 [(LI ws),(LI xs),(i6 k),(i6 w)]),dX,(.var 209 [(ba op),(.fn (.func (dP op)) [] []),(.fn (.func (dQ op)) [] [])])]⟩
def j9 (op : Int) (ws : List Int) (xs : List Int) (k : Int) (w : Int) : St := ⟨[(4,cD),(7,cR),(9,(i6 (bi op ws k w))),(45,(i6 (bi op ws k w))),(46,(i6 (bi op ws k w)))],[(.var 206 [(LI ws),(LI xs),(i6 k),(i6 w)]),dX,(.var 209 [(ba op),(.fn (.func (dP op)) [] []),(.fn (.func (dQ op)) [] [])])]⟩
def po (op : Int) (ws : List Int) (xs : List Int) (k : Int) (w : Int) : St := ⟨[(4,cD),(7,cR),(9,(i6 (bi op ws k w))),(46,(i6 (bi op ws k w))),(47,(dB (au (bi op ws k w))))],[(.var 206 [(LI ws),(LI xs),(i6 k),(i6 w)]),dX,(.var 209 [(ba op),(.fn (.func (dP op)) [] []),(.fn (.func (dQ op)) [] [])])]⟩
def gR (op : Int) (ws : List Int) (xs : List Int) (k : Int) (w : Int) : St := ⟨[(4,cD),(7,cR),(9,(i6 (bi op ws k w))),(44,(.agg [(ba op),(.fn (.func (dP op)) [] []),(.fn (.func (dQ op)) [] [])])),(45,(i6 (bi op ws k w))),(46,(i6 (bi op ws k w)))],[(.var 206 [(LI ws),(LI xs),(i6 k),(i6 w)]),dX,(.var 209 [(ba op),(.fn (.func (dP op)) [] []),(.fn (.func (dQ op)) [] [])])]⟩
def ka (op : Int) (ws : List Int) (xs : List Int) (k : Int) (w : Int) : St := ⟨[(4,cD),(7,cR),(9,(i6 (bi op ws k w))),(44,(.agg [(ba op),(.fn (.func (dP op)) [] []),(.fn (.func (dQ op)) [] [])])),(46,(i6 (bi op ws k w))),(47,(dB (au (bi op ws k w))))],[(.var 206 [(LI ws),(LI xs),(i6 k),(i6 w)]),dX,(.var 209 [(ba op),(.fn (.func (dP op)) [] []),(.fn (.func (dQ op)) [] [])])]⟩
def jn (op : Int) (ws : List Int) (xs : List Int) (k : Int) (w : Int) : St := ⟨[(4,cD),(7,cR),(9,(i6 (bi op ws k w))),(45,(i6 (bi op ws k w))),(46,(i6 (bi op ws k w))),(47,(dB (au (bi op ws k w))))],[(.var 206 [(LI ws),(LI xs),(i6 k),(i6 w)]),dX,(.var 209 [(ba op),(.fn (.func (dP op)) [] []),(.fn (.func (dQ op)) [] [])])]⟩
def f5 (op : Int) (ws : List Int) (xs : List Int) (k : Int) (w : Int) : St := ⟨[(4,cD),(7,cR),(9,(i6 (bi op ws k w))),(44,(.agg [(ba op),(.fn (.func (dP op)) [] []),(.fn (.func (dQ op)) [] [])])),(45,(i6 (bi op ws k w))),(46,(i6 (bi op ws k w))),(47,(dB (au (bi op ws k w))))],[(.var 206 [(LI ws),(LI xs),(i6 k),(i6 w)]),dX,(.var 209 [(ba op),(.fn (.func (dP op)) [] []),(.fn (.func (dQ op)) [] [])])]⟩
def nr (op : Int) (ws : List Int) (xs : List Int) (k : Int) (w : Int) : St := ⟨[(4,cD),(7,cR),(9,(i6 (bi op ws k w))),(44,(.agg [(ba op),(.fn (.func (dP op)) [] []),(.fn (.func (dQ op)) [] [])])),(46,(i6 (bi op ws k w))),(47,(dB (au (bi op ws k w))))],[(.var 206 [(LI ws),(LI xs),(i6 k),(i6 w)]),(.var 209 [(ba op),(.fn (.func (dP op)) [] []),(.fn (.func (dQ op)) [] [])]),(.var 209 [(ba op),(.fn (.func (dP op)) [] []),(.fn (.func (dQ op)) [] [])])]⟩
def jo (op : Int) (ws : List Int) (xs : List Int) (k : Int) (w : Int) : St := ⟨[(4,cD),(7,cR),(9,(i6 (bi op ws k w))),(44,(.agg [(ba op),(.fn (.func (dP op)) [] []),(.fn (.func (dQ op)) [] [])])),(45,(i6 (bi op ws k w))),(46,(i6 (bi op ws k w))),(47,(dB (au (bi op ws k w))))],[(.var 206 [(LI ws),(LI xs),(i6 k),(i6 w)]),(.var 209 [(ba op),(.fn (.func (dP op)) [] []),(.fn (.func (dQ op)) [] [])]),(.var 209 [(ba op),(.fn (.func (dP op)) [] []),(.fn (.func (dQ op)) [] [])])]⟩
def ns (op : Int) (ws : List Int) (xs : List Int) (k : Int) (w : Int) : St := ⟨[(4,cD),(5,(i6 (bi op ws k w))),(7,cR),(9,(i6 (bi op ws k w))),(44,(.agg [(ba op),(.fn (.func (dP op)) [] []),(.fn (.func (dQ op)) [] [])])),(45,(i6 (bi op ws k w))),(46,(i6 (bi op ws k w))),(47,(dB (au (bi op ws k w))))],[(.var 206 [(LI ws),(LI xs),(i6 k),(i6 w)]),(.var 209 [(ba op),(.fn (.func (dP op)) [] []),(.fn (.func (dQ op)) [] [])]),(.var 209 [(ba op),(.fn (.func (dP op)) [] []),(.fn (.func (dQ op)) [] [])])]⟩
def nu (op : Int) (ws : List Int) (xs : List Int) (k : Int) (w : Int) : St := ⟨[(4,cD),(5,(i6 (bi op ws k w))),(6,(dB (au (bi op ws k w))))],[(.var 206 [(LI ws),(LI xs),(i6 k),(i6 w)]),(.var 209 [(ba op),(.fn (.func (dP op)) [] []),(.fn (.func (dQ op)) [] [])]),(.var 209 [(ba op),(.fn (.func (dP op)) [] []),(.fn (.func (dQ op)) [] [])])]⟩
theorem uU (op : Int) (ws xs : List Int) (k w : Int) (hw : ws.length ≤ 9223372036854775807) (h : xT op ws = true) : CC (Cm op ws xs k w) := by
 obtain ⟨h1,h2⟩ := wm h
 have hop := s9 h
 refine ai.vc (V := TT 4 (CS (op = 2 ∨ op = 3 ∨ op = 4 ∨ op = 5 ∨ op = 6 ∨ op = 7 ∨ op = 8 ∨ op = 9) (CC wo∧TT 1 ((∃ (j : Nat) (e : Int × Value),eO[j]? = some e∧op = e.1∧(∀ e' ∈ eO.take j,op ≠ e'.1)∧tV (D.ofVal e.2) (.agg [(ba op),(.fn (.func (dP op)) [] []),(.fn (.func (dQ op)) [] [])]))∧TT 18 ((True∧(!decide ((ws.length : Int) = (bk op))) = false)∧TT 2 (CC (FZ ws)∧TT 1 ((!(ws.all au)) = false∧TT 3 (GC (cW op ws xs k w)∧TT 1 ((ly op ws xs k w) = (ly op ws xs k w)∧(((sE (ru op ws xs k w) (True))∧(sE (rx op ws xs k w) (True))∧(sE (ry op ws xs k w) (True))∧True)∧((sE (lz op ws xs k w) (True))∧(sE (lA op ws xs k w) (True))∧True)∧((sE (lz op ws xs k w) (True))∧(sE (lC op ws xs k w) (True))∧True)∧((sE (lA op ws xs k w) (True))∧(sE (lC op ws xs k w) (True))∧(sE (rz op ws xs k w) (CC (gz (bi op ws k w))))∧True)∧((sE (i9 op ws xs k w) (True))∧True)∧((sE (i9 op ws xs k w) (True))∧(sE (lD op ws xs k w) (CC (gz (bi op ws k w))))∧True)∧((sE (i9 op ws xs k w) (True))∧(sE (jX op ws xs k w) (CC (gz (bi op ws k w))))∧True)∧((sE (lD op ws xs k w) (True))∧(sE (jX op ws xs k w) (True))∧True)∧((sE (gQ op ws xs k w) (CC (gz (bi op ws k w))))∧True)∧((sE (gQ op ws xs k w) (True))∧(sE (ph op ws xs k w) (True))∧True)∧((sE (gQ op ws xs k w) (True))∧True)∧((sE (jY op ws xs k w) (True))∧True)∧((sE (jY op ws xs k w) (True))∧True)∧((sE (pi op ws xs k w) (True))∧True)∧((sE (pj op ws xs k w) (True))∧True)∧True∧True)∧TT 3 (((bk op) = (bk op)∧((.fn (.func (dP op)) [] []) : D) = (.fn (.func (dP op)) [] [])∧((.fn (.func (dQ op)) [] []) : D) = (.fn (.func (dQ op)) [] [])∧True)∧(bi op ws k w) = (bi op ws k w)∧(au (bi op ws k w)) = (au (bi op ws k w))∧True)))))))) (CC wo∧TT 1 ((∀ e' ∈ eO,op ≠ e'.1)∧TT 8 (CC zF∧TT 1 ((∃ (j : Nat) (e : Int × Value),fo[j]? = some e∧op = e.1∧(∀ e' ∈ fo.take j,op ≠ e'.1)∧tV (D.ofVal e.2) (.agg [(ba op),(.fn (.func (dP op)) [] []),(.fn (.func (dQ op)) [] [])]))∧TT 15 ((True∧(!decide ((ws.length : Int) = (bk op))) = false)∧TT 2 (CC (FZ ws)∧TT 1 ((!(ws.all au)) = false∧TT 3 (GC (cW op ws xs k w)∧TT 1 ((jZ op ws xs k w) = (jZ op ws xs k w)∧(((sE (pk op ws xs k w) (True))∧(sE (pm op ws xs k w) (True))∧(sE (pn op ws xs k w) (True))∧True)∧((sE (j7 op ws xs k w) (True))∧(sE (j8 op ws xs k w) (True))∧True)∧((sE (j7 op ws xs k w) (True))∧(sE (j9 op ws xs k w) (True))∧True)∧((sE (j8 op ws xs k w) (True))∧(sE (j9 op ws xs k w) (True))∧(sE (po op ws xs k w) (CC (gz (bi op ws k w))))∧True)∧((sE (gR op ws xs k w) (True))∧True)∧((sE (gR op ws xs k w) (True))∧(sE (ka op ws xs k w) (CC (gz (bi op ws k w))))∧True)∧((sE (gR op ws xs k w) (True))∧(sE (jn op ws xs k w) (CC (gz (bi op ws k w))))∧True)∧((sE (ka op ws xs k w) (True))∧(sE (jn op ws xs k w) (True))∧True)∧((sE (f5 op ws xs k w) (CC (gz (bi op ws k w))))∧True)∧((sE (f5 op ws xs k w) (True))∧(sE (nr op ws xs k w) (True))∧True)∧((sE (f5 op ws xs k w) (True))∧True)∧((sE (jo op ws xs k w) (True))∧True)∧((sE (jo op ws xs k w) (True))∧True)∧((sE (ns op ws xs k w) (True))∧True)∧((sE (nu op ws xs k w) (True))∧True)∧True∧True)∧TT 3 (((bk op) = (bk op)∧((.fn (.func (dP op)) [] []) : D) = (.fn (.func (dP op)) [] [])∧((.fn (.func (dQ op)) [] []) : D) = (.fn (.func (dQ op)) [] [])∧True)∧(bi op ws k w) = (bi op ws k w)∧(au (bi op ws k w)) = (au (bi op ws k w))∧True)))))))))))) (.s 1 (op = 2 ∨ op = 3 ∨ op = 4 ∨ op = 5 ∨ op = 6 ∨ op = 7 ∨ op = 8 ∨ op = 9) (.w 1 [(0,wo.O),(2,.ent (.agg [(ba op),(.fn (.func (dP op)) [] []),(.fn (.func (dQ op)) [] [])]))] <| .w 4 [(10,.val (dB false)),(13,(FZ ws).O)] <| .u 38 (.w 6 [(3,.callg none false (i6 (bi op ws k w)))] <| .y 7 [(3,(gz (bi op ws k w)).O)] [((bm 7 0),(ly op ws xs k w)),((bm 7 1),(ru op ws xs k w)),((bm 7 2),(rx op ws xs k w)),((bm 7 4),(ry op ws xs k w)),((bm 7 3),(lz op ws xs k w)),((bm 7 5),(lA op ws xs k w)),((bm 7 6),(lC op ws xs k w)),((bm 7 12),(rz op ws xs k w)),((bm 7 7),(i9 op ws xs k w)),((bm 7 13),(lD op ws xs k w)),((bm 7 14),(jX op ws xs k w)),((bm 7 15),(gQ op ws xs k w)),((bm 7 29),(ph op ws xs k w)),((bm 7 31),(jY op ws xs k w)),((bm 7 63),(pi op ws xs k w)),((bm 7 127),(pj op ws xs k w))] <| .e)) (.w 1 [(0,wo.O),(2,.idx none)] <| .w 3 [(0,zF.O),(2,.ent (.agg [(ba op),(.fn (.func (dP op)) [] []),(.fn (.func (dQ op)) [] [])]))] <| .w 4 [(10,.val (dB false)),(13,(FZ ws).O)] <| .u 38 (.w 6 [(3,.callg none false (i6 (bi op ws k w)))] <| .y 7 [(3,(gz (bi op ws k w)).O)] [((bm 7 0),(jZ op ws xs k w)),((bm 7 1),(pk op ws xs k w)),((bm 7 2),(pm op ws xs k w)),((bm 7 4),(pn op ws xs k w)),((bm 7 3),(j7 op ws xs k w)),((bm 7 5),(j8 op ws xs k w)),((bm 7 6),(j9 op ws xs k w)),((bm 7 12),(po op ws xs k w)),((bm 7 7),(gR op ws xs k w)),((bm 7 13),(ka op ws xs k w)),((bm 7 14),(jn op ws xs k w)),((bm 7 15),(f5 op ws xs k w)),((bm 7 29),(nr op ws xs k w)),((bm 7 31),(jo op ws xs k w)),((bm 7 63),(ns op ws xs k w)),((bm 7 127),(nu op ws xs k w))] <| .e))) Tryz.func117 rfl rfl rfl (by kernel_rfl) ?_
 refine tt ⟨fun hs0 => ?_,fun hs0 => ?_⟩
 · have hS := hs0
   exact ⟨mh,tt ⟨(ta hS),tt ⟨(nF h1),tt ⟨(i7 ws hw),tt ⟨(oH h2),tt ⟨(GW op ws xs k w h),tt ⟨rfl,⟨⟨⟨⟨rfl,oK,oK⟩,⟨rfl,oK,oK⟩,⟨rfl,oK,oK⟩,oK⟩,⟨⟨rfl,oK,oK⟩,⟨rfl,oK,oK⟩,oK⟩,⟨⟨rfl,oK,oK⟩,⟨rfl,oK,oK⟩,oK⟩,⟨⟨rfl,oK,oK⟩,⟨rfl,oK,oK⟩,⟨rfl,(du (bi op ws k w)),oK⟩,oK⟩,⟨⟨rfl,oK,oK⟩,oK⟩,⟨⟨rfl,oK,oK⟩,⟨rfl,(du (bi op ws k w)),oK⟩,oK⟩,⟨⟨rfl,oK,oK⟩,⟨rfl,(du (bi op ws k w)),oK⟩,oK⟩,⟨⟨rfl,oK,oK⟩,⟨rfl,oK,oK⟩,oK⟩,⟨⟨rfl,(du (bi op ws k w)),oK⟩,oK⟩,⟨⟨rfl,oK,oK⟩,⟨rfl,oK,oK⟩,oK⟩,⟨⟨rfl,oK,oK⟩,oK⟩,⟨⟨rfl,oK,oK⟩,oK⟩,⟨⟨rfl,oK,oK⟩,oK⟩,⟨⟨rfl,oK,oK⟩,oK⟩,⟨⟨rfl,oK,oK⟩,oK⟩,oK,oK⟩,tt ⟨⟨rfl,rfl,rfl,oK⟩,rfl,rfl,oK⟩⟩⟩⟩⟩⟩⟩⟩⟩
 · have hS := hs0
   exact ⟨mh,tt ⟨(tb hS),tt ⟨qJ,tt ⟨(tc (by omega)),tt ⟨(nF h1),tt ⟨(i7 ws hw),tt ⟨(oH h2),tt ⟨(GW op ws xs k w h),tt ⟨rfl,⟨⟨⟨⟨rfl,oK,oK⟩,⟨rfl,oK,oK⟩,⟨rfl,oK,oK⟩,oK⟩,⟨⟨rfl,oK,oK⟩,⟨rfl,oK,oK⟩,oK⟩,⟨⟨rfl,oK,oK⟩,⟨rfl,oK,oK⟩,oK⟩,⟨⟨rfl,oK,oK⟩,⟨rfl,oK,oK⟩,⟨rfl,(du (bi op ws k w)),oK⟩,oK⟩,⟨⟨rfl,oK,oK⟩,oK⟩,⟨⟨rfl,oK,oK⟩,⟨rfl,(du (bi op ws k w)),oK⟩,oK⟩,⟨⟨rfl,oK,oK⟩,⟨rfl,(du (bi op ws k w)),oK⟩,oK⟩,⟨⟨rfl,oK,oK⟩,⟨rfl,oK,oK⟩,oK⟩,⟨⟨rfl,(du (bi op ws k w)),oK⟩,oK⟩,⟨⟨rfl,oK,oK⟩,⟨rfl,oK,oK⟩,oK⟩,⟨⟨rfl,oK,oK⟩,oK⟩,⟨⟨rfl,oK,oK⟩,oK⟩,⟨⟨rfl,oK,oK⟩,oK⟩,⟨⟨rfl,oK,oK⟩,oK⟩,⟨⟨rfl,oK,oK⟩,oK⟩,oK,oK⟩,tt ⟨⟨rfl,rfl,rfl,oK⟩,rfl,rfl,oK⟩⟩⟩⟩⟩⟩⟩⟩⟩⟩⟩
abbrev Cn (op : Int) (ws xs : List Int) (k w : Int) : Ct := ⟨117,[(i6 op),(.agg [(LI ws),(LI xs),(i6 k),(i6 w)])],true,(.tup [(.agg [(i6 0),(.v .nilf),(.v .nilf)]),(i6 0),(dB false)])⟩
theorem uV (op : Int) (ws xs : List Int) (k w : Int) (hw : ws.length ≤ 9223372036854775807) (h : xT op ws = false) : CC (Cn op ws xs k w) := by
 refine ai.vc (V := TT 4 (CS (op = 2 ∨ op = 3 ∨ op = 4 ∨ op = 5 ∨ op = 6 ∨ op = 7 ∨ op = 8 ∨ op = 9) (CC wo∧TT 1 ((∃ (j : Nat) (e : Int × Value),eO[j]? = some e∧op = e.1∧(∀ e' ∈ eO.take j,op ≠ e'.1)∧tV (D.ofVal e.2) (.agg [(ba op),(.fn (.func (dP op)) [] []),(.fn (.func (dQ op)) [] [])]))∧TT 8 (CS ((ws.length : Int) = (bk op)) (TT 10 ((True∧(!decide ((ws.length : Int) = (bk op))) = false)∧TT 2 (CC (FZ ws)∧TT 1 ((!(ws.all au)) = true∧TT 7 (((0 : Int) = 0∧True∧True∧True)∧(0 : Int) = 0∧false = false∧True))))) (TT 10 ((True∧(!decide ((ws.length : Int) = (bk op))) = true)∧TT 11 (((0 : Int) = 0∧True∧True∧True)∧(0 : Int) = 0∧false = false∧True)))))) (CC wo∧TT 1 ((∀ e' ∈ eO,op ≠ e'.1)∧TT 8 (CS (op = 1 ∨ op = 10 ∨ op = 11 ∨ op = 12 ∨ op = 13) (CC zF∧TT 1 ((∃ (j : Nat) (e : Int × Value),fo[j]? = some e∧op = e.1∧(∀ e' ∈ fo.take j,op ≠ e'.1)∧tV (D.ofVal e.2) (.agg [(ba op),(.fn (.func (dP op)) [] []),(.fn (.func (dQ op)) [] [])]))∧TT 5 (CS ((ws.length : Int) = (bk op)) (TT 10 ((True∧(!decide ((ws.length : Int) = (bk op))) = false)∧TT 2 (CC (FZ ws)∧TT 1 ((!(ws.all au)) = true∧TT 7 (((0 : Int) = 0∧True∧True∧True)∧(0 : Int) = 0∧false = false∧True))))) (TT 10 ((True∧(!decide ((ws.length : Int) = (bk op))) = true)∧TT 11 (((0 : Int) = 0∧True∧True∧True)∧(0 : Int) = 0∧false = false∧True)))))) (CC zF∧TT 1 ((∀ e' ∈ fo,op ≠ e'.1)∧TT 27 (((0 : Int) = 0∧True∧True∧True)∧(0 : Int) = 0∧false = false∧True)))))))) (.s 1 (op = 2 ∨ op = 3 ∨ op = 4 ∨ op = 5 ∨ op = 6 ∨ op = 7 ∨ op = 8 ∨ op = 9) (.w 1 [(0,wo.O),(2,.ent (.agg [(ba op),(.fn (.func (dP op)) [] []),(.fn (.func (dQ op)) [] [])]))] <| .s 4 ((ws.length : Int) = (bk op)) (.w 4 [(10,.val (dB false)),(13,(FZ ws).O)] <| .t 38 (.e)) (.w 4 [(10,.val (dB true))] <| .e)) (.w 1 [(0,wo.O),(2,.idx none)] <| .s 3 (op = 1 ∨ op = 10 ∨ op = 11 ∨ op = 12 ∨ op = 13) (.w 3 [(0,zF.O),(2,.ent (.agg [(ba op),(.fn (.func (dP op)) [] []),(.fn (.func (dQ op)) [] [])]))] <| .s 4 ((ws.length : Int) = (bk op)) (.w 4 [(10,.val (dB false)),(13,(FZ ws).O)] <| .t 38 (.e)) (.w 4 [(10,.val (dB true))] <| .e)) (.w 3 [(0,zF.O),(2,.idx none)] <| .e))) Tryz.func117 rfl rfl rfl (by kernel_rfl) ?_
 refine tt ⟨fun hs0 => ?_,fun hs0 => ?_⟩
 · have hS := hs0
   refine ⟨mh,tt ⟨(ta hS),tt ⟨fun hs1 => ?_,fun hs1 => ?_⟩⟩⟩
   · exact tt ⟨(nF hs1),tt ⟨(i7 ws hw),tt ⟨(J2 (by rcases D0 h with h5 | ⟨_,h5⟩; exact absurd (by assumption) h5; rw [h5]; simp)),tt ⟨⟨rfl,oK,oK,oK⟩,rfl,rfl,oK⟩⟩⟩⟩
   · exact tt ⟨(nT hs1),tt ⟨⟨rfl,oK,oK,oK⟩,rfl,rfl,oK⟩⟩
 · have hS := hs0
   refine ⟨mh,tt ⟨(tb hS),tt ⟨fun hs2 => ?_,fun hs2 => ?_⟩⟩⟩
   · have hO := hs2
     refine ⟨qJ,tt ⟨(tc hO),tt ⟨fun hs3 => ?_,fun hs3 => ?_⟩⟩⟩
     · exact tt ⟨(nF hs3),tt ⟨(i7 ws hw),tt ⟨(J2 (by rcases D0 h with h5 | ⟨_,h5⟩; exact absurd (by assumption) h5; rw [h5]; simp)),tt ⟨⟨rfl,oK,oK,oK⟩,rfl,rfl,oK⟩⟩⟩⟩
     · exact tt ⟨(nT hs3),tt ⟨⟨rfl,oK,oK,oK⟩,rfl,rfl,oK⟩⟩
   · have hO := hs2
     exact ⟨qJ,tt ⟨(zG hO),tt ⟨⟨rfl,oK,oK,oK⟩,rfl,rfl,oK⟩⟩⟩
theorem nY {op : Int} {ws : List Int} {k w : Int} (h : xT op ws = true) (h2 : au (bi op ws k w) = true) : gi op ws k w = true := by rw [zD,h,h2]; rfl
theorem ct {op : Int} {ws : List Int} {k w : Int} (h : ¬xT op ws = true) : gi op ws k w = false := by rw [zD,Bool.eq_false_iff.2 h]; rfl
theorem cu {op : Int} {ws : List Int} {k w : Int} (h2 : ¬au (bi op ws k w) = true) : gi op ws k w = false := by rw [zD,Bool.eq_false_iff.2 h2,Bool.and_false]
theorem kS {op : Int} {ws : List Int} {k w : Int} (h : gi op ws k w = false) : 0 = bU op ws k w∧1 = jl op ws k w := by unfold bU jl; rw [h]; exact ⟨rfl,rfl⟩
theorem qK {op : Int} {ws : List Int} {k w : Int} (h : gi op ws k w = true) : bi op ws k w = bU op ws k w∧0 = jl op ws k w := by unfold bU jl; rw [h]; exact ⟨rfl,rfl⟩
abbrev Hx (op : Int) (ws : List Int) (k w : Int) : Ct := ⟨114,[(i6 op),(LI ws),(.agg [(i6 k),(i6 w)])],false,(.tup [(i6 (bU op ws k w)),(i6 (jl op ws k w))])⟩
theorem Ea (op : Int) (ws : List Int) (k w : Int) (hw : ws.length ≤ 9223372036854775807) : CC (Hx op ws k w) := by
 refine ai.vc (V := TT 3 (CS (xT op ws = true) (TT 2 (((0 ≤ (0 : Int)∧0 < (2 : Int))∧True)∧TT 1 (((0 ≤ (1 : Int)∧1 < (2 : Int))∧True)∧TT 2 ((xx [] [(i6 op),(.agg [(LI ws),.nils,(i6 k),(i6 w)])] (Cm op ws [] k w).as∧CC (Cm op ws [] k w))∧TT 10 (CB (!(au (bi op ws k w))) (TT 4 (((0 : Int) = (bU op ws k w)∧(1 : Int) = (jl op ws k w)∧True)∧(True∧True∧True))) (TT 5 (((bi op ws k w) = (bU op ws k w)∧(0 : Int) = (jl op ws k w)∧True)∧(True∧True∧True)))))))) (TT 2 (((0 ≤ (0 : Int)∧0 < (2 : Int))∧True)∧TT 1 (((0 ≤ (1 : Int)∧1 < (2 : Int))∧True)∧TT 2 ((xx [] [(i6 op),(.agg [(LI ws),.nils,(i6 k),(i6 w)])] (Cn op ws [] k w).as∧CC (Cn op ws [] k w))∧TT 14 (((0 : Int) = (bU op ws k w)∧(1 : Int) = (jl op ws k w)∧True)∧(True∧True∧True)))))))) (.s 1 (xT op ws = true) (.w 1 [(7,(Cm op ws [] k w).O')] <| .b 24 (.e) (.e)) (.w 1 [(7,(Cn op ws [] k w).O')] <| .e)) Tryz.func114 rfl rfl rfl (by kernel_rfl) ?_
 refine tt ⟨fun hs0 => ?_,fun hs0 => ?_⟩
 · have hb := hs0
   refine tt ⟨⟨by omega,oK⟩,tt ⟨⟨by omega,oK⟩,tt ⟨⟨⟨rfl,⟨rfl,rfl,rfl,rfl,oK⟩,oK⟩,(uU op ws [] k w hw hb)⟩,tt ⟨fun hc24 => ?_,fun hc24 => ?_⟩⟩⟩⟩
   · refine tt ⟨⟨?_,?_,oK⟩,⟨oK,oK,oK⟩⟩
     all_goals (first | exact (kS (ct hb)).1 | exact (kS (ct hb)).2 | exact (kS (cu (by simpa using hc24))).1 | exact (kS (cu (by simpa using hc24))).2 | exact (qK (nY hb (by simpa using hc24))).1 | exact (qK (nY hb (by simpa using hc24))).2)
   · refine tt ⟨⟨?_,?_,oK⟩,⟨oK,oK,oK⟩⟩
     all_goals (first | exact (kS (ct hb)).1 | exact (kS (ct hb)).2 | exact (kS (cu (by simpa using hc24))).1 | exact (kS (cu (by simpa using hc24))).2 | exact (qK (nY hb (by simpa using hc24))).1 | exact (qK (nY hb (by simpa using hc24))).2)
 · have hb := hs0
   refine tt ⟨⟨by omega,oK⟩,tt ⟨⟨by omega,oK⟩,tt ⟨⟨⟨rfl,⟨rfl,rfl,rfl,rfl,oK⟩,oK⟩,(uV op ws [] k w hw (Bool.eq_false_iff.2 hb))⟩,tt ⟨⟨?_,?_,oK⟩,⟨oK,oK,oK⟩⟩⟩⟩⟩
   all_goals (first | exact (kS (ct hb)).1 | exact (kS (ct hb)).2 | exact (kS (cu (by simpa using hc24))).1 | exact (kS (cu (by simpa using hc24))).2 | exact (qK (nY hb (by simpa using hc24))).1 | exact (qK (nY hb (by simpa using hc24))).2)
abbrev Hy (op : Int) (ws xs nums : List Int) : Ct := ⟨113,[(i6 op),(LI ws),(LI xs),(LI nums)],false,(.tup [(i6 (cx op ws xs nums)),(i6 (gy op ws xs nums))])⟩
abbrev pp (op : Int) (ws : List Int) (xs : List Int) (nums : List Int) : Lp (Nat) := fC [1,10,11,44,45,46] 11 (fun (i : Nat) => ⟨[(1,(LI ws)),(10,(.ptr 9 0 0 0)),(11,(.ptr 10 0 0 0)),(44,(LI xs)),(45,(i6 (xs.length : Int))),(46,(i6 (i : Int)))],[.dead,.dead,.dead,.dead,.dead,.dead,.dead,.dead,.dead,(.var 206 [(LI ws),(LI xs),(i6 (nums.getD 0 0)),(i6 (nums.getD 1 0))]),(.var 209 [(ba op),(.fn (.func (dP op)) [] []),(.fn (.func (dQ op)) [] [])])]⟩) (fun (i : Nat) => i ≤ xs.length∧∀ j,j < i → 0 ≤ xs.getD j 0∧xs.getD j 0 ≤ aj (ws.getD j 0)) (fun (i : Nat) => xs.length - i)
theorem Eb (op : Int) (ws xs nums : List Int) (hwl : ws.length ≤ 9223372036854775807) (hxl0 : xs.length ≤ 9223372036854775807) : CC (Hy op ws xs nums) := by
 refine ai.vc (V := TT 2 (CS ((nums.length : Int) = 2) (TT 3 ((True∧(!decide ((nums.length : Int) = 2)) = false)∧TT 6 (CN ((xs.length : Int) = (ws.length : Int)) (TT 4 (((0 : Int) = (cx op ws xs nums)∧(1 : Int) = (gy op ws xs nums)∧True)∧(True∧True∧True))) (TT 3 (IX 0 nums.length∧TT 2 (IX 1 nums.length∧TT 4 (CS (xT op ws = true) (TT 2 (CC (Cm op ws xs (nums.getD 0 0) (nums.getD 1 0))∧TT 10 (CB (!(au (bi op ws (nums.getD 0 0) (nums.getD 1 0)))) (TT 4 (((0 : Int) = (cx op ws xs nums)∧(1 : Int) = (gy op ws xs nums)∧True)∧(True∧True∧True))) (TT 3 (GO (pp op ws xs nums) 0 (∀ i,(pp op ws xs nums).inv i → TT 1 (CD ((i : Int) < (xs.length : Int)) (TT 1 (IX (i : Int) xs.length∧TT 3 (CS ((xs.getD i 0) < 0) (TT 2 ((True∧(decide ((xs.getD i 0) < 0)) = true)∧TT 12 (((0 : Int) = (cx op ws xs nums)∧(1 : Int) = (gy op ws xs nums)∧True)∧(True∧True∧True)))) (TT 2 ((True∧(decide ((xs.getD i 0) < 0)) = false)∧TT 3 (IX (i : Int) ws.length∧TT 1 (CC (D1 (ws.getD i 0))∧TT 2 (CD ((xs.getD i 0) > (aj (ws.getD i 0))) (TT 4 (((0 : Int) = (cx op ws xs nums)∧(1 : Int) = (gy op ws xs nums)∧True)∧(True∧True∧True))) (W6 ((i + 1 : Nat) : Int)∧TT 1 (AG (pp op ws xs nums) i (i + 1))))))))))) (TT 3 (GC (cV op ws xs (nums.getD 0 0) (nums.getD 1 0))∧TT 4 (((it op ws xs (nums.getD 0 0) (nums.getD 1 0)) = (cx op ws xs nums)∧(0 : Int) = (gy op ws xs nums)∧True)∧(True∧True∧True))))))))))) (TT 2 (CC (Cn op ws xs (nums.getD 0 0) (nums.getD 1 0))∧TT 14 (((0 : Int) = (cx op ws xs nums)∧(1 : Int) = (gy op ws xs nums)∧True)∧(True∧True∧True))))))))))) (TT 3 ((True∧(!decide ((nums.length : Int) = 2)) = true)∧TT 10 (((0 : Int) = (cx op ws xs nums)∧(1 : Int) = (gy op ws xs nums)∧True)∧(True∧True∧True)))))) (.s 1 ((nums.length : Int) = 2) (.w 1 [(3,.val (dB false))] <| .b 25 (.e) (.s 4 (xT op ws = true) (.w 4 [(2,(Cm op ws xs (nums.getD 0 0) (nums.getD 1 0)).O)] <| .b 43 (.e) (.l (pp op ws xs nums) 0 (fun i => .b 47 (.s 10 ((xs.getD i 0) < 0) (.w 10 [(2,.val (dB true))] <| .e) (.w 10 [(2,.val (dB false)),(8,(D1 (ws.getD i 0)).O)] <| .b 61 (.e) (.w 12 [(0,.val (i6 ((i + 1 : Nat) : Int)))] <| .e))) (.w 13 [(3,.callg none false (i6 (it op ws xs (nums.getD 0 0) (nums.getD 1 0))))] <| .e)))) (.w 4 [(2,(Cn op ws xs (nums.getD 0 0) (nums.getD 1 0)).O)] <| .e))) (.w 1 [(3,.val (dB true))] <| .e)) Tryz.func113 rfl rfl rfl (by kernel_rfl) ?_
 refine tt ⟨fun hs0 => ?_,fun hs0 => ?_⟩
 · refine tt ⟨(nF hs0),tt (cn (fun hc25 => ?_) (fun hc25 => ?_))⟩
   · refine tt ⟨⟨?_,?_,oK⟩,⟨oK,oK,oK⟩⟩
     all_goals (first | exact (a9 (o9 (by omega))).1.symm | exact (a9 (o9 (by omega))).2.symm | exact (a9 (pb (by omega))).1.symm | exact (a9 (pb (by omega))).2.symm | exact (a9 (ce (ct hb))).1.symm | exact (a9 (ce (ct hb))).2.symm | exact (a9 (ce (cu (by simpa using hc43)))).1.symm | exact (a9 (ce (cu (by simpa using hc43)))).2.symm | exact (a9 (i5 (i := i) (by omega) (by omega))).1.symm | exact (a9 (i5 (i := i) (by omega) (by omega))).2.symm | exact (df hl2 hxl hok hin).1.symm | exact (df hl2 hxl hok hin).2.symm)
   · refine tt ⟨ix,tt ⟨ix,tt ⟨fun hs1 => ?_,fun hs1 => ?_⟩⟩⟩
     · have hb := hs1
       refine tt ⟨(uU op ws xs (nums.getD 0 0) (nums.getD 1 0) hwl hb),tt ⟨fun hc43 => ?_,fun hc43 => ?_⟩⟩
       · refine tt ⟨⟨?_,?_,oK⟩,⟨oK,oK,oK⟩⟩
         all_goals (first | exact (a9 (o9 (by omega))).1.symm | exact (a9 (o9 (by omega))).2.symm | exact (a9 (pb (by omega))).1.symm | exact (a9 (pb (by omega))).2.symm | exact (a9 (ce (ct hb))).1.symm | exact (a9 (ce (ct hb))).2.symm | exact (a9 (ce (cu (by simpa using hc43)))).1.symm | exact (a9 (ce (cu (by simpa using hc43)))).2.symm | exact (a9 (i5 (i := i) (by omega) (by omega))).1.symm | exact (a9 (i5 (i := i) (by omega) (by omega))).2.symm | exact (df hl2 hxl hok hin).1.symm | exact (df hl2 hxl hok hin).2.symm)
       · refine tt ?_
         have hok := nY hb (by simpa using hc43)
         have hl2 : nums.length = 2 := by omega
         have hxl : xs.length = ws.length := by omega
         refine ⟨rfl,⟨by omega,fun j hj => by omega⟩,?_⟩
         intro i hinv
         obtain ⟨hi,hall⟩ := hinv
         refine tt (cd (fun hc47 => ?_) (fun hc47 => ?_))
         · refine tt ⟨ix,tt ⟨fun hs2 => ?_,fun hs2 => ?_⟩⟩
           · refine tt ⟨(vT hs2),tt ⟨⟨?_,?_,oK⟩,⟨oK,oK,oK⟩⟩⟩
             all_goals (first | exact (a9 (o9 (by omega))).1.symm | exact (a9 (o9 (by omega))).2.symm | exact (a9 (pb (by omega))).1.symm | exact (a9 (pb (by omega))).2.symm | exact (a9 (ce (ct hb))).1.symm | exact (a9 (ce (ct hb))).2.symm | exact (a9 (ce (cu (by simpa using hc43)))).1.symm | exact (a9 (ce (cu (by simpa using hc43)))).2.symm | exact (a9 (i5 (i := i) (by omega) (by omega))).1.symm | exact (a9 (i5 (i := i) (by omega) (by omega))).2.symm | exact (df hl2 hxl hok hin).1.symm | exact (df hl2 hxl hok hin).2.symm)
           · refine tt ⟨(vF hs2),tt ⟨ix,tt ⟨(pc (ws.getD i 0)),tt (cd (fun hc61 => ?_) (fun hc61 => ?_))⟩⟩⟩
             · refine tt ⟨⟨?_,?_,oK⟩,⟨oK,oK,oK⟩⟩
               all_goals (first | exact (a9 (o9 (by omega))).1.symm | exact (a9 (o9 (by omega))).2.symm | exact (a9 (pb (by omega))).1.symm | exact (a9 (pb (by omega))).2.symm | exact (a9 (ce (ct hb))).1.symm | exact (a9 (ce (ct hb))).2.symm | exact (a9 (ce (cu (by simpa using hc43)))).1.symm | exact (a9 (ce (cu (by simpa using hc43)))).2.symm | exact (a9 (i5 (i := i) (by omega) (by omega))).1.symm | exact (a9 (i5 (i := i) (by omega) (by omega))).2.symm | exact (df hl2 hxl hok hin).1.symm | exact (df hl2 hxl hok hin).2.symm)
             · refine ⟨w6,tt ⟨(i + 1),rfl,?_,(?_ : xs.length - (i + 1) < xs.length - i)⟩⟩
               · exact ⟨by omega,bZ hall ⟨by omega,by omega⟩⟩
               · omega
         · have hin : xR ws xs = true := DZ (fun j hj => hall j (by omega))
           refine tt ⟨(I2 op ws xs _ _ hok hxl hin),tt ⟨⟨?_,?_,oK⟩,⟨oK,oK,oK⟩⟩⟩
           all_goals (first | exact (a9 (o9 (by omega))).1.symm | exact (a9 (o9 (by omega))).2.symm | exact (a9 (pb (by omega))).1.symm | exact (a9 (pb (by omega))).2.symm | exact (a9 (ce (ct hb))).1.symm | exact (a9 (ce (ct hb))).2.symm | exact (a9 (ce (cu (by simpa using hc43)))).1.symm | exact (a9 (ce (cu (by simpa using hc43)))).2.symm | exact (a9 (i5 (i := i) (by omega) (by omega))).1.symm | exact (a9 (i5 (i := i) (by omega) (by omega))).2.symm | exact (df hl2 hxl hok hin).1.symm | exact (df hl2 hxl hok hin).2.symm)
     · have hb := hs1
       refine tt ⟨(uV op ws xs (nums.getD 0 0) (nums.getD 1 0) hwl (Bool.eq_false_iff.2 hb)),tt ⟨⟨?_,?_,oK⟩,⟨oK,oK,oK⟩⟩⟩
       all_goals (first | exact (a9 (o9 (by omega))).1.symm | exact (a9 (o9 (by omega))).2.symm | exact (a9 (pb (by omega))).1.symm | exact (a9 (pb (by omega))).2.symm | exact (a9 (ce (ct hb))).1.symm | exact (a9 (ce (ct hb))).2.symm | exact (a9 (ce (cu (by simpa using hc43)))).1.symm | exact (a9 (ce (cu (by simpa using hc43)))).2.symm | exact (a9 (i5 (i := i) (by omega) (by omega))).1.symm | exact (a9 (i5 (i := i) (by omega) (by omega))).2.symm | exact (df hl2 hxl hok hin).1.symm | exact (df hl2 hxl hok hin).2.symm)
 · refine tt ⟨(nT hs0),tt ⟨⟨?_,?_,oK⟩,⟨oK,oK,oK⟩⟩⟩
   all_goals (first | exact (a9 (o9 (by omega))).1.symm | exact (a9 (o9 (by omega))).2.symm | exact (a9 (pb (by omega))).1.symm | exact (a9 (pb (by omega))).2.symm | exact (a9 (ce (ct hb))).1.symm | exact (a9 (ce (ct hb))).2.symm | exact (a9 (ce (cu (by simpa using hc43)))).1.symm | exact (a9 (ce (cu (by simpa using hc43)))).2.symm | exact (a9 (i5 (i := i) (by omega) (by omega))).1.symm | exact (a9 (i5 (i := i) (by omega) (by omega))).2.symm | exact (df hl2 hxl hok hin).1.symm | exact (df hl2 hxl hok hin).2.symm)
end Go.Proofs.YtifoecfajmnjjaaGreat
