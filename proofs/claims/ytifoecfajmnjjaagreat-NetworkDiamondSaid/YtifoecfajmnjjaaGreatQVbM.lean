/-
  Package bits: the tables of operators; Width, Apply.
-/
import Derived.Test.YtifoecfajmnjjaaGreatQVbB
import Derived.Test.YtifoecfajmnjjaaGreatQMap
namespace Go.Proofs.YtifoecfajmnjjaaGreat
open Go.RowKit
set_option linter.unusedVariables false
set_option linter.unusedSimpArgs false
abbrev fg : aM := (.var 209 [(i6 0),(.v .nilf),(.v .nilf)])
abbrev bn (op : Int) : D := (i6 (bJ op))
abbrev dz : D := (.ptr 1 0 0 0)
abbrev dY : D := (.ptr 2 0 0 0)
set_option maxRecDepth 100000
def gB : List (Int × Value) := [(2,.agg #[.int .i64 1,.func (.func 122) #[] #[],.func (.func 123) #[] #[]]),(3,.agg #[.int .i64 2,.func (.func 125) #[] #[],.func (.func 126) #[] #[]]),(4,.agg #[.int .i64 2,.func (.func 125) #[] #[],.func (.func 127) #[] #[]]),(5,.agg #[.int .i64 2,.func (.func 125) #[] #[],.func (.func 128) #[] #[]]),(6,.agg #[.int .i64 2,.func (.func 125) #[] #[],.func (.func 129) #[] #[]]),(7,.agg #[.int .i64 2,.func (.func 125) #[] #[],.func (.func 130) #[] #[]]),(8,.agg #[.int .i64 2,.func (.func 131) #[] #[],.func (.func 132) #[] #[]]),(9,.agg #[.int .i64 2,.func (.func 131) #[] #[],.func (.func 134) #[] #[]])]
set_option maxHeartbeats 800000 in
theorem zz (w : World) : Calls Tryz.prog 118 #[] w (fun e w' => ∃ arr : Array MapEntry,e = .returned (.map (some w.heap.size))∧w' = w.alloc (.map arr 8)∧arr.toList.map (fun e => (e.key,e.val)) = gB.map (fun e => (Value.int .i64 e.1,e.2))) := by
  go_enter Tryz.func118,Tryz.ntmps118
  go_wp2_with (first | (rw [uD]) | (rw [wk Tryz.underlying213 Tryz.underlying3 (by rfl)]))
  go_ret
  exact ⟨_,rfl,rfl,rfl⟩
abbrev zA : Ct := ⟨118,[],false,.v (.mp gB)⟩
theorem pu : CC zA := an.of_map zz
def ic : List (Int × Value) := [(1,.agg #[.int .i64 0,.func (.func 135) #[] #[],.func (.func 136) #[] #[]]),(10,.agg #[.int .i64 3,.func (.func 137) #[] #[],.func (.func 138) #[] #[]]),(11,.agg #[.int .i64 2,.func (.func 139) #[] #[],.func (.func 140) #[] #[]]),(12,.agg #[.int .i64 1,.func (.func 141) #[] #[],.func (.func 142) #[] #[]]),(13,.agg #[.int .i64 1,.func (.func 143) #[] #[],.func (.func 144) #[] #[]])]
set_option maxHeartbeats 800000 in
theorem zB (w : World) : Calls Tryz.prog 119 #[] w (fun e w' => ∃ arr : Array MapEntry,e = .returned (.map (some w.heap.size))∧w' = w.alloc (.map arr 5)∧arr.toList.map (fun e => (e.key,e.val)) = ic.map (fun e => (Value.int .i64 e.1,e.2))) := by
  go_enter Tryz.func119,Tryz.ntmps119
  go_wp2_with (first | (rw [uD]) | (rw [wk Tryz.underlying213 Tryz.underlying3 (by rfl)]))
  go_ret
  exact ⟨_,rfl,rfl,rfl⟩
abbrev CY : Ct := ⟨119,[],false,.v (.mp ic)⟩
theorem tI : CC CY := an.of_map zB
def e9 (op : Int) : Nat :=
  if op = 1 then 135 else
  if op = 2 then 122 else
  if op = 3 then 125 else
  if op = 4 then 125 else
  if op = 5 then 125 else
  if op = 6 then 125 else
  if op = 7 then 125 else
  if op = 8 then 131 else
  if op = 9 then 131 else
  if op = 10 then 137 else
  if op = 11 then 139 else
  if op = 12 then 141 else
  if op = 13 then 143 else 0
def fa (op : Int) : Nat :=
  if op = 1 then 136 else
  if op = 2 then 123 else
  if op = 3 then 126 else
  if op = 4 then 127 else
  if op = 5 then 128 else
  if op = 6 then 129 else
  if op = 7 then 130 else
  if op = 8 then 132 else
  if op = 9 then 134 else
  if op = 10 then 138 else
  if op = 11 then 140 else
  if op = 12 then 142 else
  if op = 13 then 144 else 0
abbrev cW (op : Int) (ws xs : List Int) (k w : Int) : Ct := ⟨e9 op,[(.agg [(LI ws),(LI xs),(i6 k),(i6 w)])],false,i6 (bC op ws k w)⟩
abbrev cV (op : Int) (ws xs : List Int) (k w : Int) : Ct := ⟨fa op,[(.agg [(LI ws),(LI xs),(i6 k),(i6 w)])],false,i6 (kw op ws xs k w)⟩
theorem wn {op : Int} {ws : List Int} (h : A4 op ws = true) : op = 1 ∨ op = 2 ∨ op = 3 ∨ op = 4 ∨ op = 5 ∨ op = 6 ∨ op = 7 ∨ op = 8 ∨ op = 9 ∨ op = 10 ∨ op = 11 ∨ op = 12 ∨ op = 13 := by
  have h1 := (zy h).1
  by_cases hr : op < 1 ∨ 13 < op
  · have : bJ op = -1 := by unfold bJ; rw [if_neg (by omega),if_neg (by omega),if_neg (by omega),if_neg (by omega)]
    omega
  · omega
theorem Kz (op : Int) (ws xs : List Int) (k w : Int) (h : A4 op ws = true) : GC (cW op ws xs k w) := by
  obtain ⟨h1,hf⟩ := zy h
  rcases wn h with rfl | rfl | rfl | rfl | rfl | rfl | rfl | rfl | rfl | rfl | rfl | rfl | rfl
  · (have hl : (ws.length : Int) = 0 := h1); exact ⟨by kernel_rfl,FW ws xs k w (by omega) hf⟩
  · (have hl : (ws.length : Int) = 1 := h1); exact ⟨by kernel_rfl,HD ws xs k w (by omega) hf⟩
  · (have hl : (ws.length : Int) = 2 := h1); exact ⟨by kernel_rfl,lX ws xs k w (by omega) hf⟩
  · (have hl : (ws.length : Int) = 2 := h1); exact ⟨by kernel_rfl,lX ws xs k w (by omega) hf⟩
  · (have hl : (ws.length : Int) = 2 := h1); exact ⟨by kernel_rfl,lX ws xs k w (by omega) hf⟩
  · (have hl : (ws.length : Int) = 2 := h1); exact ⟨by kernel_rfl,lX ws xs k w (by omega) hf⟩
  · (have hl : (ws.length : Int) = 2 := h1); exact ⟨by kernel_rfl,lX ws xs k w (by omega) hf⟩
  · (have hl : (ws.length : Int) = 2 := h1); exact ⟨by kernel_rfl,HF ws xs k w (by omega) hf⟩
  · (have hl : (ws.length : Int) = 2 := h1); exact ⟨by kernel_rfl,HF ws xs k w (by omega) hf⟩
  · (have hl : (ws.length : Int) = 3 := h1); exact ⟨by kernel_rfl,JH ws xs k w (by omega) hf⟩
  · (have hl : (ws.length : Int) = 2 := h1); exact ⟨by kernel_rfl,JI ws xs k w (by omega) hf⟩
  · (have hl : (ws.length : Int) = 1 := h1); exact ⟨by kernel_rfl,FX ws xs k w (by omega) hf⟩
  · (have hl : (ws.length : Int) = 1 := h1); exact ⟨by kernel_rfl,JJ ws xs k w (by omega) hf⟩
theorem MM (op : Int) (ws xs : List Int) (k w : Int) (h : jd op ws k w = true) (hx : xs.length = ws.length) (hin : A2 ws xs = true) : GC (cV op ws xs k w) := by
  obtain ⟨h1,hf,h3⟩ := lI h
  have hb : A4 op ws = true := by unfold A4; rw [decide_eq_true h1,hf]; rfl
  rcases wn hb with rfl | rfl | rfl | rfl | rfl | rfl | rfl | rfl | rfl | rfl | rfl | rfl | rfl
  · (have hl : (ws.length : Int) = 0 := h1); exact ⟨by kernel_rfl,HG ws xs k w ⟨by omega,hf,hx,hin⟩⟩
  · (have hl : (ws.length : Int) = 1 := h1); exact ⟨by kernel_rfl,KY ws xs k w ⟨by omega,hf,hx,hin⟩⟩
  · (have hl : (ws.length : Int) = 2 := h1); exact ⟨by kernel_rfl,KZ ws xs k w ⟨by omega,hf,hx,hin⟩⟩
  · (have hl : (ws.length : Int) = 2 := h1); exact ⟨by kernel_rfl,MJ ws xs k w ⟨by omega,hf,hx,hin⟩⟩
  · (have hl : (ws.length : Int) = 2 := h1); exact ⟨by kernel_rfl,K0 ws xs k w ⟨by omega,hf,hx,hin⟩⟩
  · (have hl : (ws.length : Int) = 2 := h1); exact ⟨by kernel_rfl,K1 ws xs k w ⟨by omega,hf,hx,hin⟩⟩
  · (have hl : (ws.length : Int) = 2 := h1); exact ⟨by kernel_rfl,K2 ws xs k w ⟨by omega,hf,hx,hin⟩⟩
  · (have hl : (ws.length : Int) = 2 := h1); exact ⟨by kernel_rfl,MK ws xs k w ⟨by omega,hf,hx,hin⟩⟩
  · (have hl : (ws.length : Int) = 2 := h1); exact ⟨by kernel_rfl,ML ws xs k w ⟨by omega,hf,hx,hin⟩⟩
  · (have hl : (ws.length : Int) = 3 := h1); exact ⟨by kernel_rfl,K4 ws xs k w ⟨by omega,hf,hx,hin⟩ (zu h)⟩
  · (have hl : (ws.length : Int) = 2 := h1); exact ⟨by kernel_rfl,K5 ws xs k w ⟨by omega,hf,hx,hin⟩⟩
  · (have hl : (ws.length : Int) = 1 := h1); exact ⟨by kernel_rfl,HH ws xs k w ⟨by omega,hf,hx,hin⟩ (zx h)⟩
  · (have hl : (ws.length : Int) = 1 := h1); exact ⟨by kernel_rfl,K3 ws xs k w ⟨by omega,hf,hx,hin⟩⟩
theorem wo {op : Int} (h : op = 2 ∨ op = 3 ∨ op = 4 ∨ op = 5 ∨ op = 6 ∨ op = 7 ∨ op = 8 ∨ op = 9) : ∃ (j : Nat) (e : Int × Value),gB[j]? = some e∧op = e.1∧(∀ e' ∈ gB.take j,op ≠ e'.1)∧xp (D.ofVal e.2) (.agg [(bn op),(.fn (.func (e9 op)) [] []),(.fn (.func (fa op)) [] [])]) := by
  rcases h with rfl | rfl | rfl | rfl | rfl | rfl | rfl | rfl
  · exact ⟨0,_,rfl,rfl,by decide,⟨rfl,rfl,rfl,oK⟩⟩
  · exact ⟨1,_,rfl,rfl,by decide,⟨rfl,rfl,rfl,oK⟩⟩
  · exact ⟨2,_,rfl,rfl,by decide,⟨rfl,rfl,rfl,oK⟩⟩
  · exact ⟨3,_,rfl,rfl,by decide,⟨rfl,rfl,rfl,oK⟩⟩
  · exact ⟨4,_,rfl,rfl,by decide,⟨rfl,rfl,rfl,oK⟩⟩
  · exact ⟨5,_,rfl,rfl,by decide,⟨rfl,rfl,rfl,oK⟩⟩
  · exact ⟨6,_,rfl,rfl,by decide,⟨rfl,rfl,rfl,oK⟩⟩
  · exact ⟨7,_,rfl,rfl,by decide,⟨rfl,rfl,rfl,oK⟩⟩
theorem wp {op : Int} (h : ¬(op = 2 ∨ op = 3 ∨ op = 4 ∨ op = 5 ∨ op = 6 ∨ op = 7 ∨ op = 8 ∨ op = 9)) : ∀ e' ∈ gB,op ≠ e'.1 := by
  intro e' he'
  simp only [gB,List.mem_cons,List.not_mem_nil,or_false] at he'
  rcases he' with rfl | rfl | rfl | rfl | rfl | rfl | rfl | rfl <;> simp only [ne_eq] <;> omega
theorem wq {op : Int} (h : op = 1 ∨ op = 10 ∨ op = 11 ∨ op = 12 ∨ op = 13) : ∃ (j : Nat) (e : Int × Value),ic[j]? = some e∧op = e.1∧(∀ e' ∈ ic.take j,op ≠ e'.1)∧xp (D.ofVal e.2) (.agg [(bn op),(.fn (.func (e9 op)) [] []),(.fn (.func (fa op)) [] [])]) := by
  rcases h with rfl | rfl | rfl | rfl | rfl
  · exact ⟨0,_,rfl,rfl,by decide,⟨rfl,rfl,rfl,oK⟩⟩
  · exact ⟨1,_,rfl,rfl,by decide,⟨rfl,rfl,rfl,oK⟩⟩
  · exact ⟨2,_,rfl,rfl,by decide,⟨rfl,rfl,rfl,oK⟩⟩
  · exact ⟨3,_,rfl,rfl,by decide,⟨rfl,rfl,rfl,oK⟩⟩
  · exact ⟨4,_,rfl,rfl,by decide,⟨rfl,rfl,rfl,oK⟩⟩
theorem CZ {op : Int} (h : ¬(op = 1 ∨ op = 10 ∨ op = 11 ∨ op = 12 ∨ op = 13)) : ∀ e' ∈ ic,op ≠ e'.1 := by
  intro e' he'
  simp only [ic,List.mem_cons,List.not_mem_nil,or_false] at he'
  rcases he' with rfl | rfl | rfl | rfl | rfl <;> simp only [ne_eq] <;> omega
abbrev FZ (op : Int) (ws xs : List Int) (k w : Int) : Ct := ⟨117,[(i6 op),(.agg [(LI ws),(LI xs),(i6 k),(i6 w)])],true,(.tup [(.agg [(bn op),(.fn (.func (e9 op)) [] []),(.fn (.func (fa op)) [] [])]),(i6 (bC op ws k w)),(dB (aA (bC op ws k w)))])⟩
def oA (op : Int) (ws : List Int) (xs : List Int) (k : Int) (w : Int) : St := ⟨[(4,dz),(7,dY),(9,(i6 (bC op ws k w)))],[(.var 206 [(LI ws),(LI xs),(i6 k),(i6 w)]),fg,(.var 209 [(bn op),(.fn (.func (e9 op)) [] []),(.fn (.func (fa op)) [] [])])]⟩
def uE (op : Int) (ws : List Int) (xs : List Int) (k : Int) (w : Int) : St := ⟨[(4,dz),(7,dY),(9,(i6 (bC op ws k w))),(44,(.agg [(bn op),(.fn (.func (e9 op)) [] []),(.fn (.func (fa op)) [] [])]))],[(.var 206 [(LI ws),(LI xs),(i6 k),(i6 w)]),fg,(.var 209 [(bn op),(.fn (.func (e9 op)) [] []),(.fn (.func (fa op)) [] [])])]⟩
def uF (op : Int) (ws : List Int) (xs : List Int) (k : Int) (w : Int) : St := ⟨[(4,dz),(7,dY),(9,(i6 (bC op ws k w))),(45,(i6 (bC op ws k w)))],[(.var 206 [(LI ws),(LI xs),(i6 k),(i6 w)]),fg,(.var 209 [(bn op),(.fn (.func (e9 op)) [] []),(.fn (.func (fa op)) [] [])])]⟩
def uG (op : Int) (ws : List Int) (xs : List Int) (k : Int) (w : Int) : St := ⟨[(4,dz),(7,dY),(9,(i6 (bC op ws k w))),(46,(i6 (bC op ws k w)))],[(.var 206 [(LI ws),(LI xs),(i6 k),(i6 w)]),fg,(.var 209 [(bn op),(.fn (.func (e9 op)) [] []),(.fn (.func (fa op)) [] [])])]⟩
def oB (op : Int) (ws : List Int) (xs : List Int) (k : Int) (w : Int) : St := ⟨[(4,dz),(7,dY),(9,(i6 (bC op ws k w))),(44,(.agg [(bn op),(.fn (.func (e9 op)) [] []),(.fn (.func (fa op)) [] [])])),(45,(i6 (bC op ws k w)))],[(.var 206 [(LI ws),(LI xs),(i6 k),(i6 w)]),fg,(.var 209 [(bn op),(.fn (.func (e9 op)) [] []),(.fn (.func (fa op)) [] [])])]⟩
def oC (op : Int) (ws : List Int) (xs : List Int) (k : Int) (w : Int) : St := ⟨[(4,dz),(7,dY),(9,(i6 (bC op ws k w))),(44,(.agg [(bn op),(.fn (.func (e9 op)) [] []),(.fn (.func (fa op)) [] [])])),(46,(i6 (bC op ws k w)))],[(.var 206 [(LI ws),(LI xs),(i6 k),(i6 w)]),fg,(.var 209 [(bn op),(.fn (.func (e9 op)) [] []),(.fn (.func (fa op)) [] [])])]⟩
def oD (op : Int) (ws : List Int) (xs : List Int) (k : Int) (w : Int) : St := ⟨[(4,dz),(7,dY),(9,(i6 (bC op ws k w))),(45,(i6 (bC op ws k w))),(46,(i6 (bC op ws k w)))],[(.var 206 [(LI ws),(LI xs),(i6 k),(i6 w)]),fg,(.var 209 [(bn op),(.fn (.func (e9 op)) [] []),(.fn (.func (fa op)) [] [])])]⟩
def uH (op : Int) (ws : List Int) (xs : List Int) (k : Int) (w : Int) : St := ⟨[(4,dz),(7,dY),(9,(i6 (bC op ws k w))),(46,(i6 (bC op ws k w))),(47,(dB (aA (bC op ws k w))))],[(.var 206 [(LI ws),(LI xs),(i6 k),(i6 w)]),fg,(.var 209 [(bn op),(.fn (.func (e9 op)) [] []),(.fn (.func (fa op)) [] [])])]⟩
def ln (op : Int) (ws : List Int) (xs : List Int) (k : Int) (w : Int) : St := ⟨[(4,dz),(7,dY),(9,(i6 (bC op ws k w))),(44,(.agg [(bn op),(.fn (.func (e9 op)) [] []),(.fn (.func (fa op)) [] [])])),(45,(i6 (bC op ws k w))),(46,(i6 (bC op ws k w)))],[(.var 206 [(LI ws),(LI xs),(i6 k),(i6 w)]),fg,(.var 209 [(bn op),(.fn (.func (e9 op)) [] []),(.fn (.func (fa op)) [] [])])]⟩
def oE (op : Int) (ws : List Int) (xs : List Int) (k : Int) (w : Int) : St := ⟨[(4,dz),(7,dY),(9,(i6 (bC op ws k w))),(44,(.agg [(bn op),(.fn (.func (e9 op)) [] []),(.fn (.func (fa op)) [] [])])),(46,(i6 (bC op ws k w))),(47,(dB (aA (bC op ws k w))))],[(.var 206 [(LI ws),(LI xs),(i6 k),(i6 w)]),fg,(.var 209 [(bn op),(.fn (.func (e9 op)) [] []),(.fn (.func (fa op)) [] [])])]⟩
def mB (op : Int) (ws : List Int) (xs : List Int) (k : Int) (w : Int) : St := ⟨[(4,dz),(7,dY),(9,(i6 (bC op ws k w))),(45,(i6 (bC op ws k w))),(46,(i6 (bC op ws k w))),(47,(dB (aA (bC op ws k w))))],[(.var 206 [(LI ws),(LI xs),(i6 k),(i6 w)]),fg,(.var 209 [(bn op),(.fn (.func (e9 op)) [] []),(.fn (.func (fa op)) [] [])])]⟩
def jI (op : Int) (ws : List Int) (xs : List Int) (k : Int) (w : Int) : St := ⟨[(4,dz),(7,dY),(9,(i6 (bC op ws k w))),(44,(.agg [(bn op),(.fn (.func (e9 op)) [] []),(.fn (.func (fa op)) [] [])])),(45,(i6 (bC op ws k w))),(46,(i6 (bC op ws k w))),(47,(dB (aA (bC op ws k w))))],[(.var 206 [(LI ws),(LI xs),(i6 k),(i6 w)]),fg,(.var 209 [(bn op),(.fn (.func (e9 op)) [] []),(.fn (.func (fa op)) [] [])])]⟩
def rX (op : Int) (ws : List Int) (xs : List Int) (k : Int) (w : Int) : St := ⟨[(4,dz),(7,dY),(9,(i6 (bC op ws k w))),(44,(.agg [(bn op),(.fn (.func (e9 op)) [] []),(.fn (.func (fa op)) [] [])])),(46,(i6 (bC op ws k w))),(47,(dB (aA (bC op ws k w))))],[(.var 206 [(LI ws),(LI xs),(i6 k),(i6 w)]),(.var 209 [(bn op),(.fn (.func (e9 op)) [] []),(.fn (.func (fa op)) [] [])]),(.var 209 [(bn op),(.fn (.func (e9 op)) [] []),(.fn (.func (fa op)) [] [])])]⟩
def mC (op : Int) (ws : List Int) (xs : List Int) (k : Int) (w : Int) : St := ⟨[(4,dz),(7,dY),(9,(i6 (bC op ws k w))),(44,(.agg [(bn op),(.fn (.func (e9 op)) [] []),(.fn (.func (fa op)) [] [])])),(45,(i6 (bC op ws k w))),(46,(i6 (bC op ws k w))),(47,(dB (aA (bC op ws k w))))],[(.var 206 [(LI ws),(LI xs),(i6 k),(i6 w)]),(.var 209 [(bn op),(.fn (.func (e9 op)) [] []),(.fn (.func (fa op)) [] [])]),(.var 209 [(bn op),(.fn (.func (e9 op)) [] []),(.fn (.func (fa op)) [] [])])]⟩
def rY (op : Int) (ws : List Int) (xs : List Int) (k : Int) (w : Int) : St := ⟨[(4,dz),(5,(i6 (bC op ws k w))),(7,dY),(9,(i6 (bC op ws k w))),(44,(.agg [(bn op),(.fn (.func (e9 op)) [] []),(.fn (.func (fa op)) [] [])])),(45,(i6 (bC op ws k w))),(46,(i6 (bC op ws k w))),(47,(dB (aA (bC op ws k w))))],[(.var 206 [(LI ws),(LI xs),(i6 k),(i6 w)]),(.var 209 [(bn op),(.fn (.func (e9 op)) [] []),(.fn (.func (fa op)) [] [])]),(.var 209 [(bn op),(.fn (.func (e9 op)) [] []),(.fn (.func (fa op)) [] [])])]⟩
def rZ (op : Int) (ws : List Int) (xs : List Int) (k : Int) (w : Int) : St := ⟨[(4,dz),(5,(i6 (bC op ws k w))),(6,(dB (aA (bC op ws k w))))],[(.var 206 [(LI ws),(LI xs),(i6 k),(i6 w)]),(.var 209 [(bn op),(.fn (.func (e9 op)) [] []),(.fn (.func (fa op)) [] [])]),(.var 209 [(bn op),(.fn (.func (e9 op)) [] []),(.fn (.func (fa op)) [] [])])]⟩
def mD (op : Int) (ws : List Int) (xs : List Int) (k : Int) (w : Int) : St := ⟨[(4,dz),(7,dY),(9,(i6 (bC op ws k w)))],[(.var 206 [(LI ws),(LI xs),(i6 k),(i6 w)]),fg,(.var 209 [(bn op),(.fn (.func (e9 op)) [] []),(.fn (.func (fa op)) [] [])])]⟩
def r6 (op : Int) (ws : List Int) (xs : List Int) (k : Int) (w : Int) : St := ⟨[(4,dz),(7,dY),(9,(i6 (bC op ws k w))),(44,(.agg [(bn op),(.fn (.func (e9 op)) [] []),(.fn (.func (fa op)) [] [])]))],[(.var 206 [(LI ws),(LI xs),(i6 k),(i6 w)]),fg,(.var 209 [(bn op),(.fn (.func (e9 op)) [] []),(.fn (.func (fa op)) [] [])])]⟩
def r7 (op : Int) (ws : List Int) (xs : List Int) (k : Int) (w : Int) : St := ⟨[(4,dz),(7,dY),(9,(i6 (bC op ws k w))),(45,(i6 (bC op ws k w)))],[(.var 206 [(LI ws),(LI xs),(i6 k),(i6 w)]),fg,(.var 209 [(bn op),(.fn (.func (e9 op)) [] []),(.fn (.func (fa op)) [] [])])]⟩
def r8 (op : Int) (ws : List Int) (xs : List Int) (k : Int) (w : Int) : St := ⟨[(4,dz),(7,dY),(9,(i6 (bC op ws k w))),(46,(i6 (bC op ws k w)))],[(.var 206 [(LI ws),(LI xs),(i6 k),(i6 w)]),fg,(.var 209 [(bn op),(.fn (.func (e9 op)) [] []),(.fn (.func (fa op)) [] [])])]⟩
def mE (op : Int) (ws : List Int) (xs : List Int) (k : Int) (w : Int) : St := ⟨[(4,dz),(7,dY),(9,(i6 (bC op ws k w))),(44,(.agg [(bn op),(.fn (.func (e9 op)) [] []),(.fn (.func (fa op)) [] [])])),(45,(i6 (bC op ws k w)))],[(.var 206 [(LI ws),(LI xs),(i6 k),(i6 w)]),fg,(.var 209 [(bn op),(.fn (.func (e9 op)) [] []),(.fn (.func (fa op)) [] [])])]⟩
def mG (op : Int) (ws : List Int) (xs : List Int) (k : Int) (w : Int) : St := ⟨[(4,dz),(7,dY),(9,(i6 (bC op ws k w))),(44,(.agg [(bn op),(.fn (.func (e9 op)) [] []),(.fn (.func (fa op)) [] [])])),(46,(i6 (bC op ws k w)))],[(.var 206 [(LI ws),(LI xs),(i6 k),(i6 w)]),fg,(.var 209 [(bn op),(.fn (.func (e9 op)) [] []),(.fn (.func (fa op)) [] [])])]⟩
def mH (op : Int) (ws : List Int) (xs : List Int) (k : Int) (w : Int) : St := ⟨[(4,dz),(7,dY),(9,(i6 (bC op ws k w))),(45,(i6 (bC op ws k w))),(46,(i6 (bC op ws k w)))],[(.var 206 [(LI ws),(LI xs),(i6 k),(i6 w)]),fg,(.var 209 [(bn op),(.fn (.func (e9 op)) [] []),(.fn (.func (fa op)) [] [])])]⟩
def r9 (op : Int) (ws : List Int) (xs : List Int) (k : Int) (w : Int) : St := ⟨[(4,dz),(7,dY),(9,(i6 (bC op ws k w))),(46,(i6 (bC op ws k w))),(47,(dB (aA (bC op ws k w))))],[(.var 206 [(LI ws),(LI xs),(i6 k),(i6 w)]),fg,(.var 209 [(bn op),(.fn (.func (e9 op)) [] []),(.fn (.func (fa op)) [] [])])]⟩
def jJ (op : Int) (ws : List Int) (xs : List Int) (k : Int) (w : Int) : St := ⟨[(4,dz),(7,dY),(9,(i6 (bC op ws k w))),(44,(.agg [(bn op),(.fn (.func (e9 op)) [] []),(.fn (.func (fa op)) [] [])])),(45,(i6 (bC op ws k w))),(46,(i6 (bC op ws k w)))],[(.var 206 [(LI ws),(LI xs),(i6 k),(i6 w)]),fg,(.var 209 [(bn op),(.fn (.func (e9 op)) [] []),(.fn (.func (fa op)) [] [])])]⟩
def mI (op : Int) (ws : List Int) (xs : List Int) (k : Int) (w : Int) : St := ⟨[(4,dz),(7,dY),(9,(i6 (bC op ws k w))),(44,(.agg [(bn op),(.fn (.func (e9 op)) [] []),(.fn (.func (fa op)) [] [])])),(46,(i6 (bC op ws k w))),(47,(dB (aA (bC op ws k w))))],[(.var 206 [(LI ws),(LI xs),(i6 k),(i6 w)]),fg,(.var 209 [(bn op),(.fn (.func (e9 op)) [] []),(.fn (.func (fa op)) [] [])])]⟩
def lJ (op : Int) (ws : List Int) (xs : List Int) (k : Int) (w : Int) : St := ⟨[(4,dz),(7,dY),(9,(i6 (bC op ws k w))),(45,(i6 (bC op ws k w))),(46,(i6 (bC op ws k w))),(47,(dB (aA (bC op ws k w))))],[(.var 206 [(LI ws),(LI xs),(i6 k),(i6 w)]),fg,(.var 209 [(bn op),(.fn (.func (e9 op)) [] []),(.fn (.func (fa op)) [] [])])]⟩
def i2 (op : Int) (ws : List Int) (xs : List Int) (k : Int) (w : Int) : St := ⟨[(4,dz),(7,dY),(9,(i6 (bC op ws k w))),(44,(.agg [(bn op),(.fn (.func (e9 op)) [] []),(.fn (.func (fa op)) [] [])])),(45,(i6 (bC op ws k w))),(46,(i6 (bC op ws k w))),(47,(dB (aA (bC op ws k w))))],[(.var 206 [(LI ws),(LI xs),(i6 k),(i6 w)]),fg,(.var 209 [(bn op),(.fn (.func (e9 op)) [] []),(.fn (.func (fa op)) [] [])])]⟩
def qC (op : Int) (ws : List Int) (xs : List Int) (k : Int) (w : Int) : St := ⟨[(4,dz),(7,dY),(9,(i6 (bC op ws k w))),(44,(.agg [(bn op),(.fn (.func (e9 op)) [] []),(.fn (.func (fa op)) [] [])])),(46,(i6 (bC op ws k w))),(47,(dB (aA (bC op ws k w))))],[(.var 206 [(LI ws),(LI xs),(i6 k),(i6 w)]),(.var 209 [(bn op),(.fn (.func (e9 op)) [] []),(.fn (.func (fa op)) [] [])]),(.var 209 [(bn op),(.fn (.func (e9 op)) [] []),(.fn (.func (fa op)) [] [])])]⟩
def lK (op : Int) (ws : List Int) (xs : List Int) (k : Int) (w : Int) : St := ⟨[(4,dz),(7,dY),(9,(i6 (bC op ws k w))),(44,(.agg [(bn op),(.fn (.func (e9 op)) [] []),(.fn (.func (fa op)) [] [])])),(45,(i6 (bC op ws k w))),(46,(i6 (bC op ws k w))),(47,(dB (aA (bC op ws k w))))],[(.var 206 [(LI ws),(LI xs),(i6 k),(i6 w)]),(.var 209 [(bn op),(.fn (.func (e9 op)) [] []),(.fn (.func (fa op)) [] [])]),(.var 209 [(bn op),(.fn (.func (e9 op)) [] []),(.fn (.func (fa op)) [] [])])]⟩
def qD (op : Int) (ws : List Int) (xs : List Int) (k : Int) (w : Int) : St := ⟨[(4,dz),(5,(i6 (bC op ws k w))),(7,dY),(9,(i6 (bC op ws k w))),(44,(.agg [(bn op),(.fn (.func (e9 op)) [] []),(.fn (.func (fa op)) [] [])])),(45,(i6 (bC op ws k w))),(46,(i6 (bC op ws k w))),(47,(dB (aA (bC op ws k w))))],[(.var 206 [(LI ws),(LI xs),(i6 k),(i6 w)]),(.var 209 [(bn op),(.fn (.func (e9 op)) [] []),(.fn (.func (fa op)) [] [])]),(.var 209 [(bn op),(.fn (.func (e9 op)) [] []),(.fn (.func (fa op)) [] [])])]⟩
def qE (op : Int) (ws : List Int) (xs : List Int) (k : Int) (w : Int) : St := ⟨[(4,dz),(5,(i6 (bC op ws k w))),(6,(dB (aA (bC op ws k w))))],[(.var 206 [(LI ws),(LI xs),(i6 k),(i6 w)]),(.var 209 [(bn op),(.fn (.func (e9 op)) [] []),(.fn (.func (fa op)) [] [])]),(.var 209 [(bn op),(.fn (.func (e9 op)) [] []),(.fn (.func (fa op)) [] [])])]⟩
theorem yc (op : Int) (ws xs : List Int) (k w : Int) (hw : ws.length ≤ 9223372036854775807) (h : A4 op ws = true) : CC (FZ op ws xs k w) := by
 obtain ⟨h1,h2⟩ := zy h
 have hop := wn h
 refine an.vc (V := TT 4 (CS (op = 2 ∨ op = 3 ∨ op = 4 ∨ op = 5 ∨ op = 6 ∨ op = 7 ∨ op = 8 ∨ op = 9) (CC zA∧TT 1 ((∃ (j : Nat) (e : Int × Value),gB[j]? = some e∧op = e.1∧(∀ e' ∈ gB.take j,op ≠ e'.1)∧xp (D.ofVal e.2) (.agg [(bn op),(.fn (.func (e9 op)) [] []),(.fn (.func (fa op)) [] [])]))∧TT 18 ((True∧(!decide ((ws.length : Int) = (bJ op))) = false)∧TT 2 (CC (JG ws)∧TT 1 ((!(ws.all aA)) = false∧TT 3 (GC (cW op ws xs k w)∧TT 1 ((oA op ws xs k w) = (oA op ws xs k w)∧(((sE (uE op ws xs k w) (True))∧(sE (uF op ws xs k w) (True))∧(sE (uG op ws xs k w) (True))∧True)∧((sE (oB op ws xs k w) (True))∧(sE (oC op ws xs k w) (True))∧True)∧((sE (oB op ws xs k w) (True))∧(sE (oD op ws xs k w) (True))∧True)∧((sE (oC op ws xs k w) (True))∧(sE (oD op ws xs k w) (True))∧(sE (uH op ws xs k w) (CC (jp (bC op ws k w))))∧True)∧((sE (ln op ws xs k w) (True))∧True)∧((sE (ln op ws xs k w) (True))∧(sE (oE op ws xs k w) (CC (jp (bC op ws k w))))∧True)∧((sE (ln op ws xs k w) (True))∧(sE (mB op ws xs k w) (CC (jp (bC op ws k w))))∧True)∧((sE (oE op ws xs k w) (True))∧(sE (mB op ws xs k w) (True))∧True)∧((sE (jI op ws xs k w) (CC (jp (bC op ws k w))))∧True)∧((sE (jI op ws xs k w) (True))∧(sE (rX op ws xs k w) (True))∧True)∧((sE (jI op ws xs k w) (True))∧True)∧((sE (mC op ws xs k w) (True))∧True)∧((sE (mC op ws xs k w) (True))∧True)∧((sE (rY op ws xs k w) (True))∧True)∧((sE (rZ op ws xs k w) (True))∧True)∧True∧True)∧TT 3 (((bJ op) = (bJ op)∧((.fn (.func (e9 op)) [] []) : D) = (.fn (.func (e9 op)) [] [])∧((.fn (.func (fa op)) [] []) : D) = (.fn (.func (fa op)) [] [])∧True)∧(bC op ws k w) = (bC op ws k w)∧(aA (bC op ws k w)) = (aA (bC op ws k w))∧True)))))))) (CC zA∧TT 1 ((∀ e' ∈ gB,op ≠ e'.1)∧TT 8 (CC CY∧TT 1 ((∃ (j : Nat) (e : Int × Value),ic[j]? = some e∧op = e.1∧(∀ e' ∈ ic.take j,op ≠ e'.1)∧xp (D.ofVal e.2) (.agg [(bn op),(.fn (.func (e9 op)) [] []),(.fn (.func (fa op)) [] [])]))∧TT 15 ((True∧(!decide ((ws.length : Int) = (bJ op))) = false)∧TT 2 (CC (JG ws)∧TT 1 ((!(ws.all aA)) = false∧TT 3 (GC (cW op ws xs k w)∧TT 1 ((mD op ws xs k w) = (mD op ws xs k w)∧(((sE (r6 op ws xs k w) (True))∧(sE (r7 op ws xs k w) (True))∧(sE (r8 op ws xs k w) (True))∧True)∧((sE (mE op ws xs k w) (True))∧(sE (mG op ws xs k w) (True))∧True)∧((sE (mE op ws xs k w) (True))∧(sE (mH op ws xs k w) (True))∧True)∧((sE (mG op ws xs k w) (True))∧(sE (mH op ws xs k w) (True))∧(sE (r9 op ws xs k w) (CC (jp (bC op ws k w))))∧True)∧((sE (jJ op ws xs k w) (True))∧True)∧((sE (jJ op ws xs k w) (True))∧(sE (mI op ws xs k w) (CC (jp (bC op ws k w))))∧True)∧((sE (jJ op ws xs k w) (True))∧(sE (lJ op ws xs k w) (CC (jp (bC op ws k w))))∧True)∧((sE (mI op ws xs k w) (True))∧(sE (lJ op ws xs k w) (True))∧True)∧((sE (i2 op ws xs k w) (CC (jp (bC op ws k w))))∧True)∧((sE (i2 op ws xs k w) (True))∧(sE (qC op ws xs k w) (True))∧True)∧((sE (i2 op ws xs k w) (True))∧True)∧((sE (lK op ws xs k w) (True))∧True)∧((sE (lK op ws xs k w) (True))∧True)∧((sE (qD op ws xs k w) (True))∧True)∧((sE (qE op ws xs k w) (True))∧True)∧True∧True)∧TT 3 (((bJ op) = (bJ op)∧((.fn (.func (e9 op)) [] []) : D) = (.fn (.func (e9 op)) [] [])∧((.fn (.func (fa op)) [] []) : D) = (.fn (.func (fa op)) [] [])∧True)∧(bC op ws k w) = (bC op ws k w)∧(aA (bC op ws k w)) = (aA (bC op ws k w))∧True)))))))))))) (.s 1 (op = 2 ∨ op = 3 ∨ op = 4 ∨ op = 5 ∨ op = 6 ∨ op = 7 ∨ op = 8 ∨ op = 9) (.w 1 [(0,zA.O),(2,.ent (.agg [(bn op),(.fn (.func (e9 op)) [] []),(.fn (.func (fa op)) [] [])]))] <| .w 4 [(10,.val (dB false)),(13,(JG ws).O)] <| .u 38 (.w 6 [(3,.callg none false (i6 (bC op ws k w)))] <| .y 7 [(3,(jp (bC op ws k w)).O)] [((bm 7 0),(oA op ws xs k w)),((bm 7 1),(uE op ws xs k w)),((bm 7 2),(uF op ws xs k w)),((bm 7 4),(uG op ws xs k w)),((bm 7 3),(oB op ws xs k w)),((bm 7 5),(oC op ws xs k w)),((bm 7 6),(oD op ws xs k w)),((bm 7 12),(uH op ws xs k w)),((bm 7 7),(ln op ws xs k w)),((bm 7 13),(oE op ws xs k w)),((bm 7 14),(mB op ws xs k w)),((bm 7 15),(jI op ws xs k w)),((bm 7 29),(rX op ws xs k w)),((bm 7 31),(mC op ws xs k w)),((bm 7 63),(rY op ws xs k w)),((bm 7 127),(rZ op ws xs k w))] <| .e)) (.w 1 [(0,zA.O),(2,.idx none)] <| .w 3 [(0,CY.O),(2,.ent (.agg [(bn op),(.fn (.func (e9 op)) [] []),(.fn (.func (fa op)) [] [])]))] <| .w 4 [(10,.val (dB false)),(13,(JG ws).O)] <| .u 38 (.w 6 [(3,.callg none false (i6 (bC op ws k w)))] <| .y 7 [(3,(jp (bC op ws k w)).O)] [((bm 7 0),(mD op ws xs k w)),((bm 7 1),(r6 op ws xs k w)),((bm 7 2),(r7 op ws xs k w)),((bm 7 4),(r8 op ws xs k w)),((bm 7 3),(mE op ws xs k w)),((bm 7 5),(mG op ws xs k w)),((bm 7 6),(mH op ws xs k w)),((bm 7 12),(r9 op ws xs k w)),((bm 7 7),(jJ op ws xs k w)),((bm 7 13),(mI op ws xs k w)),((bm 7 14),(lJ op ws xs k w)),((bm 7 15),(i2 op ws xs k w)),((bm 7 29),(qC op ws xs k w)),((bm 7 31),(lK op ws xs k w)),((bm 7 63),(qD op ws xs k w)),((bm 7 127),(qE op ws xs k w))] <| .e))) Tryz.func117 rfl rfl rfl (by kernel_rfl) ?_
 refine tt ⟨fun hs0 => ?_,fun hs0 => ?_⟩
 · have hS := hs0
   exact ⟨pu,tt ⟨(wo hS),tt ⟨(nF h1),tt ⟨(ll ws hw),tt ⟨(lQ h2),tt ⟨(Kz op ws xs k w h),tt ⟨rfl,⟨⟨⟨⟨rfl,oK,oK⟩,⟨rfl,oK,oK⟩,⟨rfl,oK,oK⟩,oK⟩,⟨⟨rfl,oK,oK⟩,⟨rfl,oK,oK⟩,oK⟩,⟨⟨rfl,oK,oK⟩,⟨rfl,oK,oK⟩,oK⟩,⟨⟨rfl,oK,oK⟩,⟨rfl,oK,oK⟩,⟨rfl,(eK (bC op ws k w)),oK⟩,oK⟩,⟨⟨rfl,oK,oK⟩,oK⟩,⟨⟨rfl,oK,oK⟩,⟨rfl,(eK (bC op ws k w)),oK⟩,oK⟩,⟨⟨rfl,oK,oK⟩,⟨rfl,(eK (bC op ws k w)),oK⟩,oK⟩,⟨⟨rfl,oK,oK⟩,⟨rfl,oK,oK⟩,oK⟩,⟨⟨rfl,(eK (bC op ws k w)),oK⟩,oK⟩,⟨⟨rfl,oK,oK⟩,⟨rfl,oK,oK⟩,oK⟩,⟨⟨rfl,oK,oK⟩,oK⟩,⟨⟨rfl,oK,oK⟩,oK⟩,⟨⟨rfl,oK,oK⟩,oK⟩,⟨⟨rfl,oK,oK⟩,oK⟩,⟨⟨rfl,oK,oK⟩,oK⟩,oK,oK⟩,tt ⟨⟨rfl,rfl,rfl,oK⟩,rfl,rfl,oK⟩⟩⟩⟩⟩⟩⟩⟩⟩
 · have hS := hs0
   exact ⟨pu,tt ⟨(wp hS),tt ⟨tI,tt ⟨(wq (by omega)),tt ⟨(nF h1),tt ⟨(ll ws hw),tt ⟨(lQ h2),tt ⟨(Kz op ws xs k w h),tt ⟨rfl,⟨⟨⟨⟨rfl,oK,oK⟩,⟨rfl,oK,oK⟩,⟨rfl,oK,oK⟩,oK⟩,⟨⟨rfl,oK,oK⟩,⟨rfl,oK,oK⟩,oK⟩,⟨⟨rfl,oK,oK⟩,⟨rfl,oK,oK⟩,oK⟩,⟨⟨rfl,oK,oK⟩,⟨rfl,oK,oK⟩,⟨rfl,(eK (bC op ws k w)),oK⟩,oK⟩,⟨⟨rfl,oK,oK⟩,oK⟩,⟨⟨rfl,oK,oK⟩,⟨rfl,(eK (bC op ws k w)),oK⟩,oK⟩,⟨⟨rfl,oK,oK⟩,⟨rfl,(eK (bC op ws k w)),oK⟩,oK⟩,⟨⟨rfl,oK,oK⟩,⟨rfl,oK,oK⟩,oK⟩,⟨⟨rfl,(eK (bC op ws k w)),oK⟩,oK⟩,⟨⟨rfl,oK,oK⟩,⟨rfl,oK,oK⟩,oK⟩,⟨⟨rfl,oK,oK⟩,oK⟩,⟨⟨rfl,oK,oK⟩,oK⟩,⟨⟨rfl,oK,oK⟩,oK⟩,⟨⟨rfl,oK,oK⟩,oK⟩,⟨⟨rfl,oK,oK⟩,oK⟩,oK,oK⟩,tt ⟨⟨rfl,rfl,rfl,oK⟩,rfl,rfl,oK⟩⟩⟩⟩⟩⟩⟩⟩⟩⟩⟩
abbrev F0 (op : Int) (ws xs : List Int) (k w : Int) : Ct := ⟨117,[(i6 op),(.agg [(LI ws),(LI xs),(i6 k),(i6 w)])],true,(.tup [(.agg [(i6 0),(.v .nilf),(.v .nilf)]),(i6 0),(dB false)])⟩
theorem yd (op : Int) (ws xs : List Int) (k w : Int) (hw : ws.length ≤ 9223372036854775807) (h : A4 op ws = false) : CC (F0 op ws xs k w) := by
 refine an.vc (V := TT 4 (CS (op = 2 ∨ op = 3 ∨ op = 4 ∨ op = 5 ∨ op = 6 ∨ op = 7 ∨ op = 8 ∨ op = 9) (CC zA∧TT 1 ((∃ (j : Nat) (e : Int × Value),gB[j]? = some e∧op = e.1∧(∀ e' ∈ gB.take j,op ≠ e'.1)∧xp (D.ofVal e.2) (.agg [(bn op),(.fn (.func (e9 op)) [] []),(.fn (.func (fa op)) [] [])]))∧TT 8 (CS ((ws.length : Int) = (bJ op)) (TT 10 ((True∧(!decide ((ws.length : Int) = (bJ op))) = false)∧TT 2 (CC (JG ws)∧TT 1 ((!(ws.all aA)) = true∧TT 7 (((0 : Int) = 0∧True∧True∧True)∧(0 : Int) = 0∧false = false∧True))))) (TT 10 ((True∧(!decide ((ws.length : Int) = (bJ op))) = true)∧TT 11 (((0 : Int) = 0∧True∧True∧True)∧(0 : Int) = 0∧false = false∧True)))))) (CC zA∧TT 1 ((∀ e' ∈ gB,op ≠ e'.1)∧TT 8 (CS (op = 1 ∨ op = 10 ∨ op = 11 ∨ op = 12 ∨ op = 13) (CC CY∧TT 1 ((∃ (j : Nat) (e : Int × Value),ic[j]? = some e∧op = e.1∧(∀ e' ∈ ic.take j,op ≠ e'.1)∧xp (D.ofVal e.2) (.agg [(bn op),(.fn (.func (e9 op)) [] []),(.fn (.func (fa op)) [] [])]))∧TT 5 (CS ((ws.length : Int) = (bJ op)) (TT 10 ((True∧(!decide ((ws.length : Int) = (bJ op))) = false)∧TT 2 (CC (JG ws)∧TT 1 ((!(ws.all aA)) = true∧TT 7 (((0 : Int) = 0∧True∧True∧True)∧(0 : Int) = 0∧false = false∧True))))) (TT 10 ((True∧(!decide ((ws.length : Int) = (bJ op))) = true)∧TT 11 (((0 : Int) = 0∧True∧True∧True)∧(0 : Int) = 0∧false = false∧True)))))) (CC CY∧TT 1 ((∀ e' ∈ ic,op ≠ e'.1)∧TT 27 (((0 : Int) = 0∧True∧True∧True)∧(0 : Int) = 0∧false = false∧True)))))))) (.s 1 (op = 2 ∨ op = 3 ∨ op = 4 ∨ op = 5 ∨ op = 6 ∨ op = 7 ∨ op = 8 ∨ op = 9) (.w 1 [(0,zA.O),(2,.ent (.agg [(bn op),(.fn (.func (e9 op)) [] []),(.fn (.func (fa op)) [] [])]))] <| .s 4 ((ws.length : Int) = (bJ op)) (.w 4 [(10,.val (dB false)),(13,(JG ws).O)] <| .t 38 (.e)) (.w 4 [(10,.val (dB true))] <| .e)) (.w 1 [(0,zA.O),(2,.idx none)] <| .s 3 (op = 1 ∨ op = 10 ∨ op = 11 ∨ op = 12 ∨ op = 13) (.w 3 [(0,CY.O),(2,.ent (.agg [(bn op),(.fn (.func (e9 op)) [] []),(.fn (.func (fa op)) [] [])]))] <| .s 4 ((ws.length : Int) = (bJ op)) (.w 4 [(10,.val (dB false)),(13,(JG ws).O)] <| .t 38 (.e)) (.w 4 [(10,.val (dB true))] <| .e)) (.w 3 [(0,CY.O),(2,.idx none)] <| .e))) Tryz.func117 rfl rfl rfl (by kernel_rfl) ?_
 refine tt ⟨fun hs0 => ?_,fun hs0 => ?_⟩
 · have hS := hs0
   refine ⟨pu,tt ⟨(wo hS),tt ⟨fun hs1 => ?_,fun hs1 => ?_⟩⟩⟩
   · exact tt ⟨(nF hs1),tt ⟨(ll ws hw),tt ⟨(NP (by rcases Hx h with h5 | ⟨_,h5⟩; exact absurd (by assumption) h5; rw [h5]; simp)),tt ⟨⟨rfl,oK,oK,oK⟩,rfl,rfl,oK⟩⟩⟩⟩
   · exact tt ⟨(nT hs1),tt ⟨⟨rfl,oK,oK,oK⟩,rfl,rfl,oK⟩⟩
 · have hS := hs0
   refine ⟨pu,tt ⟨(wp hS),tt ⟨fun hs2 => ?_,fun hs2 => ?_⟩⟩⟩
   · have hO := hs2
     refine ⟨tI,tt ⟨(wq hO),tt ⟨fun hs3 => ?_,fun hs3 => ?_⟩⟩⟩
     · exact tt ⟨(nF hs3),tt ⟨(ll ws hw),tt ⟨(NP (by rcases Hx h with h5 | ⟨_,h5⟩; exact absurd (by assumption) h5; rw [h5]; simp)),tt ⟨⟨rfl,oK,oK,oK⟩,rfl,rfl,oK⟩⟩⟩⟩
     · exact tt ⟨(nT hs3),tt ⟨⟨rfl,oK,oK,oK⟩,rfl,rfl,oK⟩⟩
   · have hO := hs2
     exact ⟨tI,tt ⟨(CZ hO),tt ⟨⟨rfl,oK,oK,oK⟩,rfl,rfl,oK⟩⟩⟩
theorem qY {op : Int} {ws : List Int} {k w : Int} (h : A4 op ws = true) (h2 : aA (bC op ws k w) = true) : jd op ws k w = true := by rw [CW,h,h2]; rfl
theorem dj {op : Int} {ws : List Int} {k w : Int} (h : ¬A4 op ws = true) : jd op ws k w = false := by rw [CW,Bool.eq_false_iff.2 h]; rfl
theorem dk {op : Int} {ws : List Int} {k w : Int} (h2 : ¬aA (bC op ws k w) = true) : jd op ws k w = false := by rw [CW,Bool.eq_false_iff.2 h2,Bool.and_false]
theorem nM {op : Int} {ws : List Int} {k w : Int} (h : jd op ws k w = false) : 0 = cE op ws k w∧1 = lH op ws k w := by unfold cE lH; rw [h]; exact ⟨rfl,rfl⟩
theorem tJ {op : Int} {ws : List Int} {k w : Int} (h : jd op ws k w = true) : bC op ws k w = cE op ws k w∧0 = lH op ws k w := by unfold cE lH; rw [h]; exact ⟨rfl,rfl⟩
abbrev K6 (op : Int) (ws : List Int) (k w : Int) : Ct := ⟨114,[(i6 op),(LI ws),(.agg [(i6 k),(i6 w)])],false,(.tup [(i6 (cE op ws k w)),(i6 (lH op ws k w))])⟩
theorem HI (op : Int) (ws : List Int) (k w : Int) (hw : ws.length ≤ 9223372036854775807) : CC (K6 op ws k w) := by
 refine an.vc (V := TT 3 (CS (A4 op ws = true) (TT 2 (((0 ≤ (0 : Int)∧0 < (2 : Int))∧True)∧TT 1 (((0 ≤ (1 : Int)∧1 < (2 : Int))∧True)∧TT 2 ((xH [] [(i6 op),(.agg [(LI ws),.nils,(i6 k),(i6 w)])] (FZ op ws [] k w).as∧CC (FZ op ws [] k w))∧TT 10 (CB (!(aA (bC op ws k w))) (TT 4 (((0 : Int) = (cE op ws k w)∧(1 : Int) = (lH op ws k w)∧True)∧(True∧True∧True))) (TT 5 (((bC op ws k w) = (cE op ws k w)∧(0 : Int) = (lH op ws k w)∧True)∧(True∧True∧True)))))))) (TT 2 (((0 ≤ (0 : Int)∧0 < (2 : Int))∧True)∧TT 1 (((0 ≤ (1 : Int)∧1 < (2 : Int))∧True)∧TT 2 ((xH [] [(i6 op),(.agg [(LI ws),.nils,(i6 k),(i6 w)])] (F0 op ws [] k w).as∧CC (F0 op ws [] k w))∧TT 14 (((0 : Int) = (cE op ws k w)∧(1 : Int) = (lH op ws k w)∧True)∧(True∧True∧True)))))))) (.s 1 (A4 op ws = true) (.w 1 [(7,(FZ op ws [] k w).O')] <| .b 24 (.e) (.e)) (.w 1 [(7,(F0 op ws [] k w).O')] <| .e)) Tryz.func114 rfl rfl rfl (by kernel_rfl) ?_
 refine tt ⟨fun hs0 => ?_,fun hs0 => ?_⟩
 · have hb := hs0
   refine tt ⟨⟨by omega,oK⟩,tt ⟨⟨by omega,oK⟩,tt ⟨⟨⟨rfl,⟨rfl,rfl,rfl,rfl,oK⟩,oK⟩,(yc op ws [] k w hw hb)⟩,tt ⟨fun hc24 => ?_,fun hc24 => ?_⟩⟩⟩⟩
   · refine tt ⟨⟨?_,?_,oK⟩,⟨oK,oK,oK⟩⟩
     all_goals (first | exact (nM (dj hb)).1 | exact (nM (dj hb)).2 | exact (nM (dk (by simpa using hc24))).1 | exact (nM (dk (by simpa using hc24))).2 | exact (tJ (qY hb (by simpa using hc24))).1 | exact (tJ (qY hb (by simpa using hc24))).2)
   · refine tt ⟨⟨?_,?_,oK⟩,⟨oK,oK,oK⟩⟩
     all_goals (first | exact (nM (dj hb)).1 | exact (nM (dj hb)).2 | exact (nM (dk (by simpa using hc24))).1 | exact (nM (dk (by simpa using hc24))).2 | exact (tJ (qY hb (by simpa using hc24))).1 | exact (tJ (qY hb (by simpa using hc24))).2)
 · have hb := hs0
   refine tt ⟨⟨by omega,oK⟩,tt ⟨⟨by omega,oK⟩,tt ⟨⟨⟨rfl,⟨rfl,rfl,rfl,rfl,oK⟩,oK⟩,(yd op ws [] k w hw (Bool.eq_false_iff.2 hb))⟩,tt ⟨⟨?_,?_,oK⟩,⟨oK,oK,oK⟩⟩⟩⟩⟩
   all_goals (first | exact (nM (dj hb)).1 | exact (nM (dj hb)).2 | exact (nM (dk (by simpa using hc24))).1 | exact (nM (dk (by simpa using hc24))).2 | exact (tJ (qY hb (by simpa using hc24))).1 | exact (tJ (qY hb (by simpa using hc24))).2)
abbrev K7 (op : Int) (ws xs nums : List Int) : Ct := ⟨113,[(i6 op),(LI ws),(LI xs),(LI nums)],false,(.tup [(i6 (dn op ws xs nums)),(i6 (jo op ws xs nums))])⟩
abbrev sa (op : Int) (ws : List Int) (xs : List Int) (nums : List Int) : Lp (Nat) := fX [1,10,11,44,45,46] 11 (fun (i : Nat) => ⟨[(1,(LI ws)),(10,(.ptr 9 0 0 0)),(11,(.ptr 10 0 0 0)),(44,(LI xs)),(45,(i6 (xs.length : Int))),(46,(i6 (i : Int)))],[.dead,.dead,.dead,.dead,.dead,.dead,.dead,.dead,.dead,(.var 206 [(LI ws),(LI xs),(i6 (nums.getD 0 0)),(i6 (nums.getD 1 0))]),(.var 209 [(bn op),(.fn (.func (e9 op)) [] []),(.fn (.func (fa op)) [] [])])]⟩) (fun (i : Nat) => i ≤ xs.length∧∀ j,j < i → 0 ≤ xs.getD j 0∧xs.getD j 0 ≤ ap (ws.getD j 0)) (fun (i : Nat) => xs.length - i)
theorem HJ (op : Int) (ws xs nums : List Int) (hwl : ws.length ≤ 9223372036854775807) (hxl0 : xs.length ≤ 9223372036854775807) : CC (K7 op ws xs nums) := by
 refine an.vc (V := TT 2 (CS ((nums.length : Int) = 2) (TT 3 ((True∧(!decide ((nums.length : Int) = 2)) = false)∧TT 6 (CN ((xs.length : Int) = (ws.length : Int)) (TT 4 (((0 : Int) = (dn op ws xs nums)∧(1 : Int) = (jo op ws xs nums)∧True)∧(True∧True∧True))) (TT 3 (IX 0 nums.length∧TT 2 (IX 1 nums.length∧TT 4 (CS (A4 op ws = true) (TT 2 (CC (FZ op ws xs (nums.getD 0 0) (nums.getD 1 0))∧TT 10 (CB (!(aA (bC op ws (nums.getD 0 0) (nums.getD 1 0)))) (TT 4 (((0 : Int) = (dn op ws xs nums)∧(1 : Int) = (jo op ws xs nums)∧True)∧(True∧True∧True))) (TT 3 (GO (sa op ws xs nums) 0 (∀ i,(sa op ws xs nums).inv i → TT 1 (CD ((i : Int) < (xs.length : Int)) (TT 1 (IX (i : Int) xs.length∧TT 3 (CS ((xs.getD i 0) < 0) (TT 2 ((True∧(decide ((xs.getD i 0) < 0)) = true)∧TT 12 (((0 : Int) = (dn op ws xs nums)∧(1 : Int) = (jo op ws xs nums)∧True)∧(True∧True∧True)))) (TT 2 ((True∧(decide ((xs.getD i 0) < 0)) = false)∧TT 3 (IX (i : Int) ws.length∧TT 1 (CC (Hy (ws.getD i 0))∧TT 2 (CD ((xs.getD i 0) > (ap (ws.getD i 0))) (TT 4 (((0 : Int) = (dn op ws xs nums)∧(1 : Int) = (jo op ws xs nums)∧True)∧(True∧True∧True))) (W6 ((i + 1 : Nat) : Int)∧TT 1 (AG (sa op ws xs nums) i (i + 1))))))))))) (TT 3 (GC (cV op ws xs (nums.getD 0 0) (nums.getD 1 0))∧TT 4 (((kw op ws xs (nums.getD 0 0) (nums.getD 1 0)) = (dn op ws xs nums)∧(0 : Int) = (jo op ws xs nums)∧True)∧(True∧True∧True))))))))))) (TT 2 (CC (F0 op ws xs (nums.getD 0 0) (nums.getD 1 0))∧TT 14 (((0 : Int) = (dn op ws xs nums)∧(1 : Int) = (jo op ws xs nums)∧True)∧(True∧True∧True))))))))))) (TT 3 ((True∧(!decide ((nums.length : Int) = 2)) = true)∧TT 10 (((0 : Int) = (dn op ws xs nums)∧(1 : Int) = (jo op ws xs nums)∧True)∧(True∧True∧True)))))) (.s 1 ((nums.length : Int) = 2) (.w 1 [(3,.val (dB false))] <| .b 25 (.e) (.s 4 (A4 op ws = true) (.w 4 [(2,(FZ op ws xs (nums.getD 0 0) (nums.getD 1 0)).O)] <| .b 43 (.e) (.l (sa op ws xs nums) 0 (fun i => .b 47 (.s 10 ((xs.getD i 0) < 0) (.w 10 [(2,.val (dB true))] <| .e) (.w 10 [(2,.val (dB false)),(8,(Hy (ws.getD i 0)).O)] <| .b 61 (.e) (.w 12 [(0,.val (i6 ((i + 1 : Nat) : Int)))] <| .e))) (.w 13 [(3,.callg none false (i6 (kw op ws xs (nums.getD 0 0) (nums.getD 1 0))))] <| .e)))) (.w 4 [(2,(F0 op ws xs (nums.getD 0 0) (nums.getD 1 0)).O)] <| .e))) (.w 1 [(3,.val (dB true))] <| .e)) Tryz.func113 rfl rfl rfl (by kernel_rfl) ?_
 refine tt ⟨fun hs0 => ?_,fun hs0 => ?_⟩
 · refine tt ⟨(nF hs0),tt (cn (fun hc25 => ?_) (fun hc25 => ?_))⟩
   · refine tt ⟨⟨?_,?_,oK⟩,⟨oK,oK,oK⟩⟩
     all_goals (first | exact (bl (rS (by omega))).1.symm | exact (bl (rS (by omega))).2.symm | exact (bl (rT (by omega))).1.symm | exact (bl (rT (by omega))).2.symm | exact (bl (cQ (dj hb))).1.symm | exact (bl (cQ (dj hb))).2.symm | exact (bl (cQ (dk (by simpa using hc43)))).1.symm | exact (bl (cQ (dk (by simpa using hc43)))).2.symm | exact (bl (lk (i := i) (by omega) (by omega))).1.symm | exact (bl (lk (i := i) (by omega) (by omega))).2.symm | exact (ey hl2 hxl hok hin).1.symm | exact (ey hl2 hxl hok hin).2.symm)
   · refine tt ⟨ix,tt ⟨ix,tt ⟨fun hs1 => ?_,fun hs1 => ?_⟩⟩⟩
     · have hb := hs1
       refine tt ⟨(yc op ws xs (nums.getD 0 0) (nums.getD 1 0) hwl hb),tt ⟨fun hc43 => ?_,fun hc43 => ?_⟩⟩
       · refine tt ⟨⟨?_,?_,oK⟩,⟨oK,oK,oK⟩⟩
         all_goals (first | exact (bl (rS (by omega))).1.symm | exact (bl (rS (by omega))).2.symm | exact (bl (rT (by omega))).1.symm | exact (bl (rT (by omega))).2.symm | exact (bl (cQ (dj hb))).1.symm | exact (bl (cQ (dj hb))).2.symm | exact (bl (cQ (dk (by simpa using hc43)))).1.symm | exact (bl (cQ (dk (by simpa using hc43)))).2.symm | exact (bl (lk (i := i) (by omega) (by omega))).1.symm | exact (bl (lk (i := i) (by omega) (by omega))).2.symm | exact (ey hl2 hxl hok hin).1.symm | exact (ey hl2 hxl hok hin).2.symm)
       · refine tt ?_
         have hok := qY hb (by simpa using hc43)
         have hl2 : nums.length = 2 := by omega
         have hxl : xs.length = ws.length := by omega
         refine ⟨rfl,⟨by omega,fun j hj => by omega⟩,?_⟩
         intro i hinv
         obtain ⟨hi,hall⟩ := hinv
         refine tt (cd (fun hc47 => ?_) (fun hc47 => ?_))
         · refine tt ⟨ix,tt ⟨fun hs2 => ?_,fun hs2 => ?_⟩⟩
           · refine tt ⟨(vT hs2),tt ⟨⟨?_,?_,oK⟩,⟨oK,oK,oK⟩⟩⟩
             all_goals (first | exact (bl (rS (by omega))).1.symm | exact (bl (rS (by omega))).2.symm | exact (bl (rT (by omega))).1.symm | exact (bl (rT (by omega))).2.symm | exact (bl (cQ (dj hb))).1.symm | exact (bl (cQ (dj hb))).2.symm | exact (bl (cQ (dk (by simpa using hc43)))).1.symm | exact (bl (cQ (dk (by simpa using hc43)))).2.symm | exact (bl (lk (i := i) (by omega) (by omega))).1.symm | exact (bl (lk (i := i) (by omega) (by omega))).2.symm | exact (ey hl2 hxl hok hin).1.symm | exact (ey hl2 hxl hok hin).2.symm)
           · refine tt ⟨(vF hs2),tt ⟨ix,tt ⟨(rU (ws.getD i 0)),tt (cd (fun hc61 => ?_) (fun hc61 => ?_))⟩⟩⟩
             · refine tt ⟨⟨?_,?_,oK⟩,⟨oK,oK,oK⟩⟩
               all_goals (first | exact (bl (rS (by omega))).1.symm | exact (bl (rS (by omega))).2.symm | exact (bl (rT (by omega))).1.symm | exact (bl (rT (by omega))).2.symm | exact (bl (cQ (dj hb))).1.symm | exact (bl (cQ (dj hb))).2.symm | exact (bl (cQ (dk (by simpa using hc43)))).1.symm | exact (bl (cQ (dk (by simpa using hc43)))).2.symm | exact (bl (lk (i := i) (by omega) (by omega))).1.symm | exact (bl (lk (i := i) (by omega) (by omega))).2.symm | exact (ey hl2 hxl hok hin).1.symm | exact (ey hl2 hxl hok hin).2.symm)
             · refine ⟨w6,tt ⟨(i + 1),rfl,?_,(?_ : xs.length - (i + 1) < xs.length - i)⟩⟩
               · exact ⟨by omega,cy hall ⟨by omega,by omega⟩⟩
               · omega
         · have hin : A2 ws xs = true := Hw (fun j hj => hall j (by omega))
           refine tt ⟨(MM op ws xs _ _ hok hxl hin),tt ⟨⟨?_,?_,oK⟩,⟨oK,oK,oK⟩⟩⟩
           all_goals (first | exact (bl (rS (by omega))).1.symm | exact (bl (rS (by omega))).2.symm | exact (bl (rT (by omega))).1.symm | exact (bl (rT (by omega))).2.symm | exact (bl (cQ (dj hb))).1.symm | exact (bl (cQ (dj hb))).2.symm | exact (bl (cQ (dk (by simpa using hc43)))).1.symm | exact (bl (cQ (dk (by simpa using hc43)))).2.symm | exact (bl (lk (i := i) (by omega) (by omega))).1.symm | exact (bl (lk (i := i) (by omega) (by omega))).2.symm | exact (ey hl2 hxl hok hin).1.symm | exact (ey hl2 hxl hok hin).2.symm)
     · have hb := hs1
       refine tt ⟨(yd op ws xs (nums.getD 0 0) (nums.getD 1 0) hwl (Bool.eq_false_iff.2 hb)),tt ⟨⟨?_,?_,oK⟩,⟨oK,oK,oK⟩⟩⟩
       all_goals (first | exact (bl (rS (by omega))).1.symm | exact (bl (rS (by omega))).2.symm | exact (bl (rT (by omega))).1.symm | exact (bl (rT (by omega))).2.symm | exact (bl (cQ (dj hb))).1.symm | exact (bl (cQ (dj hb))).2.symm | exact (bl (cQ (dk (by simpa using hc43)))).1.symm | exact (bl (cQ (dk (by simpa using hc43)))).2.symm | exact (bl (lk (i := i) (by omega) (by omega))).1.symm | exact (bl (lk (i := i) (by omega) (by omega))).2.symm | exact (ey hl2 hxl hok hin).1.symm | exact (ey hl2 hxl hok hin).2.symm)
 · refine tt ⟨(nT hs0),tt ⟨⟨?_,?_,oK⟩,⟨oK,oK,oK⟩⟩⟩
   all_goals (first | exact (bl (rS (by omega))).1.symm | exact (bl (rS (by omega))).2.symm | exact (bl (rT (by omega))).1.symm | exact (bl (rT (by omega))).2.symm | exact (bl (cQ (dj hb))).1.symm | exact (bl (cQ (dj hb))).2.symm | exact (bl (cQ (dk (by simpa using hc43)))).1.symm | exact (bl (cQ (dk (by simpa using hc43)))).2.symm | exact (bl (lk (i := i) (by omega) (by omega))).1.symm | exact (bl (lk (i := i) (by omega) (by omega))).2.symm | exact (ey hl2 hxl hok hin).1.symm | exact (ey hl2 hxl hok hin).2.symm)
end Go.Proofs.YtifoecfajmnjjaaGreat
