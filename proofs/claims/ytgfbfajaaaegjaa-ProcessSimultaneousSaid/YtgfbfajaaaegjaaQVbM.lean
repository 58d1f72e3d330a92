/-
  Package bits: the tables of operators; Width, Apply.
-/
import Derived.Test.YtgfbfajaaaegjaaQVbB
namespace Go.Proofs.Ytgfbfajaaaegjaa
open Go.RowKit
set_option linter.unusedVariables false
set_option linter.unusedSimpArgs false
abbrev dC : ax := (.var 128 [(i6 0),(.v .nilf),(.v .nilf)])
abbrev aV (op : Int) : D := (i6 (bH op))
abbrev cp : D := (.ptr 1 0 0 0)
abbrev cv : D := (.ptr 2 0 0 0)
set_option maxRecDepth 100000
def ew : List (Int × Value) := [(2,.agg #[.int .i64 1,.func (.func 78) #[] #[],.func (.func 79) #[] #[]]),(3,.agg #[.int .i64 2,.func (.func 81) #[] #[],.func (.func 82) #[] #[]]),(4,.agg #[.int .i64 2,.func (.func 81) #[] #[],.func (.func 83) #[] #[]]),(5,.agg #[.int .i64 2,.func (.func 81) #[] #[],.func (.func 84) #[] #[]]),(6,.agg #[.int .i64 2,.func (.func 81) #[] #[],.func (.func 85) #[] #[]]),(7,.agg #[.int .i64 2,.func (.func 81) #[] #[],.func (.func 86) #[] #[]]),(8,.agg #[.int .i64 2,.func (.func 87) #[] #[],.func (.func 88) #[] #[]]),(9,.agg #[.int .i64 2,.func (.func 87) #[] #[],.func (.func 90) #[] #[]])]
set_option maxHeartbeats 800000 in
theorem tp (w : World) : Calls Try.prog 71 #[] w (fun e w' => ∃ arr : Array MapEntry,e = .returned (.map (some w.heap.size))∧w' = w.alloc (.map arr 8)∧arr.toList.map (fun e => (e.key,e.val)) = ew.map (fun e => (Value.int .i64 e.1,e.2))) := by
  go_enter Try.func71,Try.ntmps71
  go_wp2_with (first | (rw [pc]) | (rw [qD Try.underlying151 Try.underlying3 (by rfl)]))
  go_ret
  exact ⟨_,rfl,rfl,rfl⟩
abbrev zV : Ct := ⟨71,[],false,.v (.mp ew)⟩
theorem kA : CC zV := ai.of_map tp
def fa : List (Int × Value) := [(1,.agg #[.int .i64 0,.func (.func 91) #[] #[],.func (.func 92) #[] #[]]),(10,.agg #[.int .i64 3,.func (.func 93) #[] #[],.func (.func 94) #[] #[]]),(11,.agg #[.int .i64 2,.func (.func 95) #[] #[],.func (.func 96) #[] #[]]),(12,.agg #[.int .i64 1,.func (.func 97) #[] #[],.func (.func 98) #[] #[]]),(13,.agg #[.int .i64 1,.func (.func 99) #[] #[],.func (.func 100) #[] #[]])]
set_option maxHeartbeats 800000 in
theorem tq (w : World) : Calls Try.prog 72 #[] w (fun e w' => ∃ arr : Array MapEntry,e = .returned (.map (some w.heap.size))∧w' = w.alloc (.map arr 5)∧arr.toList.map (fun e => (e.key,e.val)) = fa.map (fun e => (Value.int .i64 e.1,e.2))) := by
  go_enter Try.func72,Try.ntmps72
  go_wp2_with (first | (rw [pc]) | (rw [qD Try.underlying151 Try.underlying3 (by rfl)]))
  go_ret
  exact ⟨_,rfl,rfl,rfl⟩
abbrev Bh : Ct := ⟨72,[],false,.v (.mp fa)⟩
theorem ou : CC Bh := ai.of_map tq
def dq (op : Int) : Nat :=
  if op = 1 then 91 else
  if op = 2 then 78 else
  if op = 3 then 81 else
  if op = 4 then 81 else
  if op = 5 then 81 else
  if op = 6 then 81 else
  if op = 7 then 81 else
  if op = 8 then 87 else
  if op = 9 then 87 else
  if op = 10 then 93 else
  if op = 11 then 95 else
  if op = 12 then 97 else
  if op = 13 then 99 else 0
def dr (op : Int) : Nat :=
  if op = 1 then 92 else
  if op = 2 then 79 else
  if op = 3 then 82 else
  if op = 4 then 83 else
  if op = 5 then 84 else
  if op = 6 then 85 else
  if op = 7 then 86 else
  if op = 8 then 88 else
  if op = 9 then 90 else
  if op = 10 then 94 else
  if op = 11 then 96 else
  if op = 12 then 98 else
  if op = 13 then 100 else 0
abbrev cW (op : Int) (ws xs : List Int) (k w : Int) : Ct := ⟨dq op,[(.agg [(LI ws),(LI xs),(i6 k),(i6 w)])],false,i6 (bu op ws k w)⟩
abbrev cV (op : Int) (ws xs : List Int) (k w : Int) : Ct := ⟨dr op,[(.agg [(LI ws),(LI xs),(i6 k),(i6 w)])],false,i6 (lm op ws xs k w)⟩
theorem qF {op : Int} {ws : List Int} (h : uv op ws = true) : op = 1 ∨ op = 2 ∨ op = 3 ∨ op = 4 ∨ op = 5 ∨ op = 6 ∨ op = 7 ∨ op = 8 ∨ op = 9 ∨ op = 10 ∨ op = 11 ∨ op = 12 ∨ op = 13 := by
  have h1 := (to h).1
  by_cases hr : op < 1 ∨ 13 < op
  · have : bH op = -1 := by unfold bH; rw [if_neg (by omega),if_neg (by omega),if_neg (by omega),if_neg (by omega)]
    omega
  · omega
theorem AB (op : Int) (ws xs : List Int) (k w : Int) (h : uv op ws = true) : GC (cW op ws xs k w) := by
  obtain ⟨h1,hf⟩ := to h
  rcases qF h with rfl | rfl | rfl | rfl | rfl | rfl | rfl | rfl | rfl | rfl | rfl | rfl | rfl
  · (have hl : (ws.length : Int) = 0 := h1); exact ⟨by kernel_rfl,xu ws xs k w (by omega) hf⟩
  · (have hl : (ws.length : Int) = 1 := h1); exact ⟨by kernel_rfl,yE ws xs k w (by omega) hf⟩
  · (have hl : (ws.length : Int) = 2 := h1); exact ⟨by kernel_rfl,iI ws xs k w (by omega) hf⟩
  · (have hl : (ws.length : Int) = 2 := h1); exact ⟨by kernel_rfl,iI ws xs k w (by omega) hf⟩
  · (have hl : (ws.length : Int) = 2 := h1); exact ⟨by kernel_rfl,iI ws xs k w (by omega) hf⟩
  · (have hl : (ws.length : Int) = 2 := h1); exact ⟨by kernel_rfl,iI ws xs k w (by omega) hf⟩
  · (have hl : (ws.length : Int) = 2 := h1); exact ⟨by kernel_rfl,iI ws xs k w (by omega) hf⟩
  · (have hl : (ws.length : Int) = 2 := h1); exact ⟨by kernel_rfl,yF ws xs k w (by omega) hf⟩
  · (have hl : (ws.length : Int) = 2 := h1); exact ⟨by kernel_rfl,yF ws xs k w (by omega) hf⟩
  · (have hl : (ws.length : Int) = 3 := h1); exact ⟨by kernel_rfl,zS ws xs k w (by omega) hf⟩
  · (have hl : (ws.length : Int) = 2 := h1); exact ⟨by kernel_rfl,zT ws xs k w (by omega) hf⟩
  · (have hl : (ws.length : Int) = 1 := h1); exact ⟨by kernel_rfl,xv ws xs k w (by omega) hf⟩
  · (have hl : (ws.length : Int) = 1 := h1); exact ⟨by kernel_rfl,zU ws xs k w (by omega) hf⟩
theorem Ci (op : Int) (ws xs : List Int) (k w : Int) (h : ll op ws k w = true) (hx : xs.length = ws.length) (hin : xr ws xs = true) : GC (cV op ws xs k w) := by
  obtain ⟨h1,hf,h3⟩ := ot h
  have hb : uv op ws = true := by unfold uv; rw [decide_eq_true h1,hf]; rfl
  rcases qF hb with rfl | rfl | rfl | rfl | rfl | rfl | rfl | rfl | rfl | rfl | rfl | rfl | rfl
  · (have hl : (ws.length : Int) = 0 := h1); exact ⟨by kernel_rfl,yG ws xs k w ⟨by omega,hf,hx,hin⟩⟩
  · (have hl : (ws.length : Int) = 1 := h1); exact ⟨by kernel_rfl,A9 ws xs k w ⟨by omega,hf,hx,hin⟩⟩
  · (have hl : (ws.length : Int) = 2 := h1); exact ⟨by kernel_rfl,Ba ws xs k w ⟨by omega,hf,hx,hin⟩⟩
  · (have hl : (ws.length : Int) = 2 := h1); exact ⟨by kernel_rfl,Cf ws xs k w ⟨by omega,hf,hx,hin⟩⟩
  · (have hl : (ws.length : Int) = 2 := h1); exact ⟨by kernel_rfl,Bb ws xs k w ⟨by omega,hf,hx,hin⟩⟩
  · (have hl : (ws.length : Int) = 2 := h1); exact ⟨by kernel_rfl,Bc ws xs k w ⟨by omega,hf,hx,hin⟩⟩
  · (have hl : (ws.length : Int) = 2 := h1); exact ⟨by kernel_rfl,Bd ws xs k w ⟨by omega,hf,hx,hin⟩⟩
  · (have hl : (ws.length : Int) = 2 := h1); exact ⟨by kernel_rfl,Cg ws xs k w ⟨by omega,hf,hx,hin⟩⟩
  · (have hl : (ws.length : Int) = 2 := h1); exact ⟨by kernel_rfl,Ch ws xs k w ⟨by omega,hf,hx,hin⟩⟩
  · (have hl : (ws.length : Int) = 3 := h1); exact ⟨by kernel_rfl,Bf ws xs k w ⟨by omega,hf,hx,hin⟩ (ww h)⟩
  · (have hl : (ws.length : Int) = 2 := h1); exact ⟨by kernel_rfl,Bg ws xs k w ⟨by omega,hf,hx,hin⟩⟩
  · (have hl : (ws.length : Int) = 1 := h1); exact ⟨by kernel_rfl,yH ws xs k w ⟨by omega,hf,hx,hin⟩ (wy h)⟩
  · (have hl : (ws.length : Int) = 1 := h1); exact ⟨by kernel_rfl,Be ws xs k w ⟨by omega,hf,hx,hin⟩⟩
theorem qG {op : Int} (h : op = 2 ∨ op = 3 ∨ op = 4 ∨ op = 5 ∨ op = 6 ∨ op = 7 ∨ op = 8 ∨ op = 9) : ∃ (j : Nat) (e : Int × Value),ew[j]? = some e∧op = e.1∧(∀ e' ∈ ew.take j,op ≠ e'.1)∧sZ (D.ofVal e.2) (.agg [(aV op),(.fn (.func (dq op)) [] []),(.fn (.func (dr op)) [] [])]) := by
  rcases h with rfl | rfl | rfl | rfl | rfl | rfl | rfl | rfl
  · exact ⟨0,_,rfl,rfl,by decide,⟨rfl,rfl,rfl,oK⟩⟩
  · exact ⟨1,_,rfl,rfl,by decide,⟨rfl,rfl,rfl,oK⟩⟩
  · exact ⟨2,_,rfl,rfl,by decide,⟨rfl,rfl,rfl,oK⟩⟩
  · exact ⟨3,_,rfl,rfl,by decide,⟨rfl,rfl,rfl,oK⟩⟩
  · exact ⟨4,_,rfl,rfl,by decide,⟨rfl,rfl,rfl,oK⟩⟩
  · exact ⟨5,_,rfl,rfl,by decide,⟨rfl,rfl,rfl,oK⟩⟩
  · exact ⟨6,_,rfl,rfl,by decide,⟨rfl,rfl,rfl,oK⟩⟩
  · exact ⟨7,_,rfl,rfl,by decide,⟨rfl,rfl,rfl,oK⟩⟩
theorem qH {op : Int} (h : ¬(op = 2 ∨ op = 3 ∨ op = 4 ∨ op = 5 ∨ op = 6 ∨ op = 7 ∨ op = 8 ∨ op = 9)) : ∀ e' ∈ ew,op ≠ e'.1 := by
  intro e' he'
  simp only [ew,List.mem_cons,List.not_mem_nil,or_false] at he'
  rcases he' with rfl | rfl | rfl | rfl | rfl | rfl | rfl | rfl <;> simp only [ne_eq] <;> omega
theorem qI {op : Int} (h : op = 1 ∨ op = 10 ∨ op = 11 ∨ op = 12 ∨ op = 13) : ∃ (j : Nat) (e : Int × Value),fa[j]? = some e∧op = e.1∧(∀ e' ∈ fa.take j,op ≠ e'.1)∧sZ (D.ofVal e.2) (.agg [(aV op),(.fn (.func (dq op)) [] []),(.fn (.func (dr op)) [] [])]) := by
  rcases h with rfl | rfl | rfl | rfl | rfl
  · exact ⟨0,_,rfl,rfl,by decide,⟨rfl,rfl,rfl,oK⟩⟩
  · exact ⟨1,_,rfl,rfl,by decide,⟨rfl,rfl,rfl,oK⟩⟩
  · exact ⟨2,_,rfl,rfl,by decide,⟨rfl,rfl,rfl,oK⟩⟩
  · exact ⟨3,_,rfl,rfl,by decide,⟨rfl,rfl,rfl,oK⟩⟩
  · exact ⟨4,_,rfl,rfl,by decide,⟨rfl,rfl,rfl,oK⟩⟩
theorem vA {op : Int} (h : ¬(op = 1 ∨ op = 10 ∨ op = 11 ∨ op = 12 ∨ op = 13)) : ∀ e' ∈ fa,op ≠ e'.1 := by
  intro e' he'
  simp only [fa,List.mem_cons,List.not_mem_nil,or_false] at he'
  rcases he' with rfl | rfl | rfl | rfl | rfl <;> simp only [ne_eq] <;> omega
abbrev xx (op : Int) (ws xs : List Int) (k w : Int) : Ct := ⟨53,[(i6 op),(.agg [(LI ws),(LI xs),(i6 k),(i6 w)])],true,(.tup [(.agg [(aV op),(.fn (.func (dq op)) [] []),(.fn (.func (dr op)) [] [])]),(i6 (bu op ws k w)),(dB (aq (bu op ws k w)))])⟩
def jQ (op : Int) (ws : List Int) (xs : List Int) (k : Int) (w : Int) : St := ⟨[(4,cp),(7,cv),(9,(i6 (bu op ws k w)))],[(.var 125 [(LI ws),(LI xs),(i6 k),(i6 w)]),dC,(.var 128 [(aV op),(.fn (.func (dq op)) [] []),(.fn (.func (dr op)) [] [])])]⟩
def pd (op : Int) (ws : List Int) (xs : List Int) (k : Int) (w : Int) : St := ⟨[(4,cp),(7,cv),(9,(i6 (bu op ws k w))),(44,(.agg [(aV op),(.fn (.func (dq op)) [] []),(.fn (.func (dr op)) [] [])]))],[(.var 125 [(LI ws),(LI xs),(i6 k),(i6 w)]),dC,(.var 128 [(aV op),(.fn (.func (dq op)) [] []),(.fn (.func (dr op)) [] [])])]⟩
def pg (op : Int) (ws : List Int) (xs : List Int) (k : Int) (w : Int) : St := ⟨[(4,cp),(7,cv),(9,(i6 (bu op ws k w))),(45,(i6 (bu op ws k w)))],[(.var 125 [(LI ws),(LI xs),(i6 k),(i6 w)]),dC,(.var 128 [(aV op),(.fn (.func (dq op)) [] []),(.fn (.func (dr op)) [] [])])]⟩
def ph (op : Int) (ws : List Int) (xs : List Int) (k : Int) (w : Int) : St := ⟨[(4,cp),(7,cv),(9,(i6 (bu op ws k w))),(46,(i6 (bu op ws k w)))],[(.var 125 [(LI ws),(LI xs),(i6 k),(i6 w)]),dC,(.var 128 [(aV op),(.fn (.func (dq op)) [] []),(.fn (.func (dr op)) [] [])])]⟩
def jR (op : Int) (ws : List Int) (xs : List Int) (k : Int) (w : Int) : St := ⟨[(4,cp),(7,cv),(9,(i6 (bu op ws k w))),(44,(.agg [(aV op),(.fn (.func (dq op)) [] []),(.fn (.func (dr op)) [] [])])),(45,(i6 (bu op ws k w)))],[(.var 125 [(LI ws),(LI xs),(i6 k),(i6 w)]),dC,(.var 128 [(aV op),(.fn (.func (dq op)) [] []),(.fn (.func (dr op)) [] [])])]⟩
def jS (op : Int) (ws : List Int) (xs : List Int) (k : Int) (w : Int) : St := ⟨[(4,cp),(7,cv),(9,(i6 (bu op ws k w))),(44,(.agg [(aV op),(.fn (.func (dq op)) [] []),(.fn (.func (dr op)) [] [])])),(46,(i6 (bu op ws k w)))],[(.var 125 [(LI ws),(LI xs),(i6 k),(i6 w)]),dC,(.var 128 [(aV op),(.fn (.func (dq op)) [] []),(.fn (.func (dr op)) [] [])])]⟩
def jT (op : Int) (ws : List Int) (xs : List Int) (k : Int) (w : Int) : St := ⟨[(4,cp),(7,cv),(9,(i6 (bu op ws k w))),(45,(i6 (bu op ws k w))),(46,(i6 (bu op ws k w)))],[(.var 125 [(LI ws),(LI xs),(i6 k),(i6 w)]),dC,(.var 128 [(aV op),(.fn (.func (dq op)) [] []),(.fn (.func (dr op)) [] [])])]⟩
def pi (op : Int) (ws : List Int) (xs : List Int) (k : Int) (w : Int) : St := ⟨[(4,cp),(7,cv),(9,(i6 (bu op ws k w))),(46,(i6 (bu op ws k w))),(47,(dB (aq (bu op ws k w))))],[(.var 125 [(LI ws),(LI xs),(i6 k),(i6 w)]),dC,(.var 128 [(aV op),(.fn (.func (dq op)) [] []),(.fn (.func (dr op)) [] [])])]⟩
def gY (op : Int) (ws : List Int) (xs : List Int) (k : Int) (w : Int) : St := ⟨[(4,cp),(7,cv),(9,(i6 (bu op ws k w))),(44,(.agg [(aV op),(.fn (.func (dq op)) [] []),(.fn (.func (dr op)) [] [])])),(45,(i6 (bu op ws k w))),(46,(i6 (bu op ws k w)))],[(.var 125 [(LI ws),(LI xs),(i6 k),(i6 w)]),dC,(.var 128 [(aV op),(.fn (.func (dq op)) [] []),(.fn (.func (dr op)) [] [])])]⟩
def jU (op : Int) (ws : List Int) (xs : List Int) (k : Int) (w : Int) : St := ⟨[(4,cp),(7,cv),(9,(i6 (bu op ws k w))),(44,(.agg [(aV op),(.fn (.func (dq op)) [] []),(.fn (.func (dr op)) [] [])])),(46,(i6 (bu op ws k w))),(47,(dB (aq (bu op ws k w))))],[(.var 125 [(LI ws),(LI xs),(i6 k),(i6 w)]),dC,(.var 128 [(aV op),(.fn (.func (dq op)) [] []),(.fn (.func (dr op)) [] [])])]⟩
def i7 (op : Int) (ws : List Int) (xs : List Int) (k : Int) (w : Int) : St := ⟨[(4,cp),(7,cv),(9,(i6 (bu op ws k w))),(45,(i6 (bu op ws k w))),(46,(i6 (bu op ws k w))),(47,(dB (aq (bu op ws k w))))],[(.var 125 [(LI ws),(LI xs),(i6 k),(i6 w)]),dC,(.var 128 [(aV op),(.fn (.func (dq op)) [] []),(.fn (.func (dr op)) [] [])])]⟩
def f9 (op : Int) (ws : List Int) (xs : List Int) (k : Int) (w : Int) : St := ⟨[(4,cp),(7,cv),(9,(i6 (bu op ws k w))),(44,(.agg [(aV op),(.fn (.func (dq op)) [] []),(.fn (.func (dr op)) [] [])])),(45,(i6 (bu op ws k w))),(46,(i6 (bu op ws k w))),(47,(dB (aq (bu op ws k w))))],[(.var 125 [(LI ws),(LI xs),(i6 k),(i6 w)]),dC,(.var 128 [(aV op),(.fn (.func (dq op)) [] []),(.fn (.func (dr op)) [] [])])]⟩
def mO (op : Int) (ws : List Int) (xs : List Int) (k : Int) (w : Int) : St := ⟨[(4,cp),(7,cv),(9,(i6 (bu op ws k w))),(44,(.agg [(aV op),(.fn (.func (dq op)) [] []),(.fn (.func (dr op)) [] [])])),(46,(i6 (bu op ws k w))),(47,(dB (aq (bu op ws k w))))],[(.var 125 [(LI ws),(LI xs),(i6 k),(i6 w)]),(.var 128 [(aV op),(.fn (.func (dq op)) [] []),(.fn (.func (dr op)) [] [])]),(.var 128 [(aV op),(.fn (.func (dq op)) [] []),(.fn (.func (dr op)) [] [])])]⟩
def i8 (op : Int) (ws : List Int) (xs : List Int) (k : Int) (w : Int) : St := ⟨[(4,cp),(7,cv),(9,(i6 (bu op ws k w))),(44,(.agg [(aV op),(.fn (.func (dq op)) [] []),(.fn (.func (dr op)) [] [])])),(45,(i6 (bu op ws k w))),(46,(i6 (bu op ws k w))),(47,(dB (aq (bu op ws k w))))],[(.var 125 [(LI ws),(LI xs),(i6 k),(i6 w)]),(.var 128 [(aV op),(.fn (.func (dq op)) [] []),(.fn (.func (dr op)) [] [])]),(.var 128 [(aV op),(.fn (.func (dq op)) [] []),(.fn (.func (dr op)) [] [])])]⟩
def mP (op : Int) (ws : List Int) (xs : List Int) (k : Int) (w : Int) : St := ⟨[(4,cp),(5,(i6 (bu op ws k w))),(7,cv),(9,(i6 (bu op ws k w))),(44,(.agg [(aV op),(.fn (.func (dq op)) [] []),(.fn (.func (dr op)) [] [])])),(45,(i6 (bu op ws k w))),(46,(i6 (bu op ws k w))),(47,(dB (aq (bu op ws k w))))],[(.var 125 [(LI ws),(LI xs),(i6 k),(i6 w)]),(.var 128 [(aV op),(.fn (.func (dq op)) [] []),(.fn (.func (dr op)) [] [])]),(.var 128 [(aV op),(.fn (.func (dq op)) [] []),(.fn (.func (dr op)) [] [])])]⟩
def mQ (op : Int) (ws : List Int) (xs : List Int) (k : Int) (w : Int) : St := ⟨[(4,cp),(5,(i6 (bu op ws k w))),(6,(dB (aq (bu op ws k w))))],[(.var 125 [(LI ws),(LI xs),(i6 k),(i6 w)]),(.var 128 [(aV op),(.fn (.func (dq op)) [] []),(.fn (.func (dr op)) [] [])]),(.var 128 [(aV op),(.fn (.func (dq op)) [] []),(.fn (.func (dr op)) [] [])])]⟩
def i9 (op : Int) (ws : List Int) (xs : List Int) (k : Int) (w : Int) : St := ⟨[(4,cp),(7,cv),(9,(i6 (bu op ws k w)))],[(.var 125 [(LI ws),(LI xs),(i6 k),(i6 w)]),dC,(.var 128 [(aV op),(.fn (.func (dq op)) [] []),(.fn (.func (dr op)) [] [])])]⟩
def mR (op : Int) (ws : List Int) (xs : List Int) (k : Int) (w : Int) : St := ⟨[(4,cp),(7,cv),(9,(i6 (bu op ws k w))),(44,(.agg [(aV op),(.fn (.func (dq op)) [] []),(.fn (.func (dr op)) [] [])]))],[(.var 125 [(LI ws),(LI xs),(i6 k),(i6 w)]),dC,(.var 128 [(aV op),(.fn (.func (dq op)) [] []),(.fn (.func (dr op)) [] [])])]⟩
def mS (op : Int) (ws : List Int) (xs : List Int) (k : Int) (w : Int) : St := ⟨[(4,cp),(7,cv),(9,(i6 (bu op ws k w))),(45,(i6 (bu op ws k w)))],[(.var 125 [(LI ws),(LI xs),(i6 k),(i6 w)]),dC,(.var 128 [(aV op),(.fn (.func (dq op)) [] []),(.fn (.func (dr op)) [] [])])]⟩
def mU (op : Int) (ws : List Int) (xs : List Int) (k : Int) (w : Int) : St := ⟨[(4,cp),(7,cv),(9,(i6 (bu op ws k w))),(46,(i6 (bu op ws k w)))],[(.var 125 [(LI ws),(LI xs),(i6 k),(i6 w)]),dC,(.var 128 [(aV op),(.fn (.func (dq op)) [] []),(.fn (.func (dr op)) [] [])])]⟩
def ja (op : Int) (ws : List Int) (xs : List Int) (k : Int) (w : Int) : St := ⟨[(4,cp),(7,cv),(9,(i6 (bu op ws k w))),(44,(.agg [(aV op),(.fn (.func (dq op)) [] []),(.fn (.func (dr op)) [] [])])),(45,(i6 (bu op ws k w)))],[(.var 125 [(LI ws),(LI xs),(i6 k),(i6 w)]),dC,(.var 128 [(aV op),(.fn (.func (dq op)) [] []),(.fn (.func (dr op)) [] [])])]⟩
def jb (op : Int) (ws : List Int) (xs : List Int) (k : Int) (w : Int) : St := ⟨[(4,cp),(7,cv),(9,(i6 (bu op ws k w))),(44,(.agg [(aV op),(.fn (.func (dq op)) [] []),(.fn (.func (dr op)) [] [])])),(46,(i6 (bu op ws k w)))],[(.var 125 [(LI ws),(LI xs),(i6 k),(i6 w)]),dC,(.var 128 [(aV op),(.fn (.func (dq op)) [] []),(.fn (.func (dr op)) [] [])])]⟩
def jc (op : Int) (ws : List Int) (xs : List Int) (k : Int) (w : Int) : St := ⟨[(4,cp),(7,cv),(9,(i6 (bu op ws k w))),(45,(i6 (bu op ws k w))),(46,(i6 (bu op ws k w)))],[(.var 125 [(LI ws),(LI xs),(i6 k),(i6 w)]),dC,(.var 128 [(aV op),(.fn (.func (dq op)) [] []),(.fn (.func (dr op)) [] [])])]⟩
def mV (op : Int) (ws : List Int) (xs : List Int) (k : Int) (w : Int) : St := ⟨[(4,cp),(7,cv),(9,(i6 (bu op ws k w))),(46,(i6 (bu op ws k w))),(47,(dB (aq (bu op ws k w))))],[(.var 125 [(LI ws),(LI xs),(i6 k),(i6 w)]),dC,(.var 128 [(aV op),(.fn (.func (dq op)) [] []),(.fn (.func (dr op)) [] [])])]⟩
def gd (op : Int) (ws : List Int) (xs : List Int) (k : Int) (w : Int) : St := ⟨[(4,cp),(7,cv),(9,(i6 (bu op ws k w))),(44,(.agg [(aV op),(.fn (.func (dq op)) [] []),(.fn (.func (dr op)) [] [])])),(45,(i6 (bu op ws k w))),(46,(i6 (bu op ws k w)))],[(.var 125 [(LI ws),(LI xs),(i6 k),(i6 w)]),dC,(.var 128 [(aV op),(.fn (.func (dq op)) [] []),(.fn (.func (dr op)) [] [])])]⟩
def jd (op : Int) (ws : List Int) (xs : List Int) (k : Int) (w : Int) : St := ⟨[(4,cp),(7,cv),(9,(i6 (bu op ws k w))),(44,(.agg [(aV op),(.fn (.func (dq op)) [] []),(.fn (.func (dr op)) [] [])])),(46,(i6 (bu op ws k w))),(47,(dB (aq (bu op ws k w))))],[(.var 125 [(LI ws),(LI xs),(i6 k),(i6 w)]),dC,(.var 128 [(aV op),(.fn (.func (dq op)) [] []),(.fn (.func (dr op)) [] [])])]⟩
def ik (op : Int) (ws : List Int) (xs : List Int) (k : Int) (w : Int) : St := ⟨[(4,cp),(7,cv),(9,(i6 (bu op ws k w))),(45,(i6 (bu op ws k w))),(46,(i6 (bu op ws k w))),(47,(dB (aq (bu op ws k w))))],[(.var 125 [(LI ws),(LI xs),(i6 k),(i6 w)]),dC,(.var 128 [(aV op),(.fn (.func (dq op)) [] []),(.fn (.func (dr op)) [] [])])]⟩
def fB (op : Int) (ws : List Int) (xs : List Int) (k : Int) (w : Int) : St := ⟨[(4,cp),(7,cv),(9,(i6 (bu op ws k w))),(44,(.agg [(aV op),(.fn (.func (dq op)) [] []),(.fn (.func (dr op)) [] [])])),(45,(i6 (bu op ws k w))),(46,(i6 (bu op ws k w))),(47,(dB (aq (bu op ws k w))))],[(.var 125 [(LI ws),(LI xs),(i6 k),(i6 w)]),dC,(.var 128 [(aV op),(.fn (.func (dq op)) [] []),(.fn (.func (dr op)) [] [])])]⟩
def lH (op : Int) (ws : List Int) (xs : List Int) (k : Int) (w : Int) : St := ⟨[(4,cp),(7,cv),(9,(i6 (bu op ws k w))),(44,(.agg [(aV op),(.fn (.func (dq op)) [] []),(.fn (.func (dr op)) [] [])])),(46,(i6 (bu op ws k w))),(47,(dB (aq (bu op ws k w))))],[(.var 125 [(LI ws),(LI xs),(i6 k),(i6 w)]),(.var 128 [(aV op),(.fn (.func (dq op)) [] []),(.fn (.func (dr op)) [] [])]),(.var 128 [(aV op),(.fn (.func (dq op)) [] []),(.fn (.func (dr op)) [] [])])]⟩
def il (op : Int) (ws : List Int) (xs : List Int) (k : Int) (w : Int) : St := ⟨[(4,cp),(7,cv),(9,(i6 (bu op ws k w))),(44,(.agg [(aV op),(.fn (.func (dq op)) [] []),(.fn (.func (dr op)) [] [])])),(45,(i6 (bu op ws k w))),(46,(i6 (bu op ws k w))),(47,(dB (aq (bu op ws k w))))],[(.var 125 [(LI ws),(LI xs),(i6 k),(i6 w)]),(.var 128 [(aV op),(.fn (.func (dq op)) [] []),(.fn (.func (dr op)) [] [])]),(.var 128 [(aV op),(.fn (.func (dq op)) [] []),(.fn (.func (dr op)) [] [])])]⟩
def lI (op : Int) (ws : List Int) (xs : List Int) (k : Int) (w : Int) : St := ⟨[(4,cp),(5,(i6 (bu op ws k w))),(7,cv),(9,(i6 (bu op ws k w))),(44,(.agg [(aV op),(.fn (.func (dq op)) [] []),(.fn (.func (dr op)) [] [])])),(45,(i6 (bu op ws k w))),(46,(i6 (bu op ws k w))),(47,(dB (aq (bu op ws k w))))],[(.var 125 [(LI ws),(LI xs),(i6 k),(i6 w)]),(.var 128 [(aV op),(.fn (.func (dq op)) [] []),(.fn (.func (dr op)) [] [])]),(.var 128 [(aV op),(.fn (.func (dq op)) [] []),(.fn (.func (dr op)) [] [])])]⟩
def lJ (op : Int) (ws : List Int) (xs : List Int) (k : Int) (w : Int) : St := ⟨[(4,cp),(5,(i6 (bu op ws k w))),(6,(dB (aq (bu op ws k w))))],[(.var 125 [(LI ws),(LI xs),(i6 k),(i6 w)]),(.var 128 [(aV op),(.fn (.func (dq op)) [] []),(.fn (.func (dr op)) [] [])]),(.var 128 [(aV op),(.fn (.func (dq op)) [] []),(.fn (.func (dr op)) [] [])])]⟩
theorem sr (op : Int) (ws xs : List Int) (k w : Int) (hw : ws.length ≤ 9223372036854775807) (h : uv op ws = true) : CC (xx op ws xs k w) := by
 obtain ⟨h1,h2⟩ := to h
 have hop := qF h
 refine ai.vc (V := TT 4 (CS (op = 2 ∨ op = 3 ∨ op = 4 ∨ op = 5 ∨ op = 6 ∨ op = 7 ∨ op = 8 ∨ op = 9) (CC zV∧TT 1 ((∃ (j : Nat) (e : Int × Value),ew[j]? = some e∧op = e.1∧(∀ e' ∈ ew.take j,op ≠ e'.1)∧sZ (D.ofVal e.2) (.agg [(aV op),(.fn (.func (dq op)) [] []),(.fn (.func (dr op)) [] [])]))∧TT 18 ((True∧(!decide ((ws.length : Int) = (bH op))) = false)∧TT 2 (CC (zR ws)∧TT 1 ((!(ws.all aq)) = false∧TT 3 (GC (cW op ws xs k w)∧TT 1 ((jQ op ws xs k w) = (jQ op ws xs k w)∧(((sE (pd op ws xs k w) (True))∧(sE (pg op ws xs k w) (True))∧(sE (ph op ws xs k w) (True))∧True)∧((sE (jR op ws xs k w) (True))∧(sE (jS op ws xs k w) (True))∧True)∧((sE (jR op ws xs k w) (True))∧(sE (jT op ws xs k w) (True))∧True)∧((sE (jS op ws xs k w) (True))∧(sE (jT op ws xs k w) (True))∧(sE (pi op ws xs k w) (CC (pC (bu op ws k w))))∧True)∧((sE (gY op ws xs k w) (True))∧True)∧((sE (gY op ws xs k w) (True))∧(sE (jU op ws xs k w) (CC (pC (bu op ws k w))))∧True)∧((sE (gY op ws xs k w) (True))∧(sE (i7 op ws xs k w) (CC (pC (bu op ws k w))))∧True)∧((sE (jU op ws xs k w) (True))∧(sE (i7 op ws xs k w) (True))∧True)∧((sE (f9 op ws xs k w) (CC (pC (bu op ws k w))))∧True)∧((sE (f9 op ws xs k w) (True))∧(sE (mO op ws xs k w) (True))∧True)∧((sE (f9 op ws xs k w) (True))∧True)∧((sE (i8 op ws xs k w) (True))∧True)∧((sE (i8 op ws xs k w) (True))∧True)∧((sE (mP op ws xs k w) (True))∧True)∧((sE (mQ op ws xs k w) (True))∧True)∧True∧True)∧TT 3 (((bH op) = (bH op)∧((.fn (.func (dq op)) [] []) : D) = (.fn (.func (dq op)) [] [])∧((.fn (.func (dr op)) [] []) : D) = (.fn (.func (dr op)) [] [])∧True)∧(bu op ws k w) = (bu op ws k w)∧(aq (bu op ws k w)) = (aq (bu op ws k w))∧True)))))))) (CC zV∧TT 1 ((∀ e' ∈ ew,op ≠ e'.1)∧TT 8 (CC Bh∧TT 1 ((∃ (j : Nat) (e : Int × Value),fa[j]? = some e∧op = e.1∧(∀ e' ∈ fa.take j,op ≠ e'.1)∧sZ (D.ofVal e.2) (.agg [(aV op),(.fn (.func (dq op)) [] []),(.fn (.func (dr op)) [] [])]))∧TT 15 ((True∧(!decide ((ws.length : Int) = (bH op))) = false)∧TT 2 (CC (zR ws)∧TT 1 ((!(ws.all aq)) = false∧TT 3 (GC (cW op ws xs k w)∧TT 1 ((i9 op ws xs k w) = (i9 op ws xs k w)∧(((sE (mR op ws xs k w) (True))∧(sE (mS op ws xs k w) (True))∧(sE (mU op ws xs k w) (True))∧True)∧((sE (ja op ws xs k w) (True))∧(sE (jb op ws xs k w) (True))∧True)∧((sE (ja op ws xs k w) (True))∧(sE (jc op ws xs k w) (True))∧True)∧((sE (jb op ws xs k w) (True))∧(sE (jc op ws xs k w) (True))∧(sE (mV op ws xs k w) (CC (pC (bu op ws k w))))∧True)∧((sE (gd op ws xs k w) (True))∧True)∧((sE (gd op ws xs k w) (True))∧(sE (jd op ws xs k w) (CC (pC (bu op ws k w))))∧True)∧((sE (gd op ws xs k w) (True))∧(sE (ik op ws xs k w) (CC (pC (bu op ws k w))))∧True)∧((sE (jd op ws xs k w) (True))∧(sE (ik op ws xs k w) (True))∧True)∧((sE (fB op ws xs k w) (CC (pC (bu op ws k w))))∧True)∧((sE (fB op ws xs k w) (True))∧(sE (lH op ws xs k w) (True))∧True)∧((sE (fB op ws xs k w) (True))∧True)∧((sE (il op ws xs k w) (True))∧True)∧((sE (il op ws xs k w) (True))∧True)∧((sE (lI op ws xs k w) (True))∧True)∧((sE (lJ op ws xs k w) (True))∧True)∧True∧True)∧TT 3 (((bH op) = (bH op)∧((.fn (.func (dq op)) [] []) : D) = (.fn (.func (dq op)) [] [])∧((.fn (.func (dr op)) [] []) : D) = (.fn (.func (dr op)) [] [])∧True)∧(bu op ws k w) = (bu op ws k w)∧(aq (bu op ws k w)) = (aq (bu op ws k w))∧True)))))))))))) (.s 1 (op = 2 ∨ op = 3 ∨ op = 4 ∨ op = 5 ∨ op = 6 ∨ op = 7 ∨ op = 8 ∨ op = 9) (.w 1 [(0,zV.O),(2,.ent (.agg [(aV op),(.fn (.func (dq op)) [] []),(.fn (.func (dr op)) [] [])]))] <| .w 4 [(10,.val (dB false)),(13,(zR ws).O)] <| .u 38 (.w 6 [(3,.callg none false (i6 (bu op ws k w)))] <| .y 7 [(3,(pC (bu op ws k w)).O)] [((bm 7 0),(jQ op ws xs k w)),((bm 7 1),(pd op ws xs k w)),((bm 7 2),(pg op ws xs k w)),((bm 7 4),(ph op ws xs k w)),((bm 7 3),(jR op ws xs k w)),((bm 7 5),(jS op ws xs k w)),((bm 7 6),(jT op ws xs k w)),((bm 7 12),(pi op ws xs k w)),((bm 7 7),(gY op ws xs k w)),((bm 7 13),(jU op ws xs k w)),((bm 7 14),(i7 op ws xs k w)),((bm 7 15),(f9 op ws xs k w)),((bm 7 29),(mO op ws xs k w)),((bm 7 31),(i8 op ws xs k w)),((bm 7 63),(mP op ws xs k w)),((bm 7 127),(mQ op ws xs k w))] <| .e)) (.w 1 [(0,zV.O),(2,.idx none)] <| .w 3 [(0,Bh.O),(2,.ent (.agg [(aV op),(.fn (.func (dq op)) [] []),(.fn (.func (dr op)) [] [])]))] <| .w 4 [(10,.val (dB false)),(13,(zR ws).O)] <| .u 38 (.w 6 [(3,.callg none false (i6 (bu op ws k w)))] <| .y 7 [(3,(pC (bu op ws k w)).O)] [((bm 7 0),(i9 op ws xs k w)),((bm 7 1),(mR op ws xs k w)),((bm 7 2),(mS op ws xs k w)),((bm 7 4),(mU op ws xs k w)),((bm 7 3),(ja op ws xs k w)),((bm 7 5),(jb op ws xs k w)),((bm 7 6),(jc op ws xs k w)),((bm 7 12),(mV op ws xs k w)),((bm 7 7),(gd op ws xs k w)),((bm 7 13),(jd op ws xs k w)),((bm 7 14),(ik op ws xs k w)),((bm 7 15),(fB op ws xs k w)),((bm 7 29),(lH op ws xs k w)),((bm 7 31),(il op ws xs k w)),((bm 7 63),(lI op ws xs k w)),((bm 7 127),(lJ op ws xs k w))] <| .e))) Try.func53 rfl rfl rfl (by kernel_rfl) ?_
 refine tt ⟨fun hs0 => ?_,fun hs0 => ?_⟩
 · have hS := hs0
   exact ⟨kA,tt ⟨(qG hS),tt ⟨(nF h1),tt ⟨(gW ws hw),tt ⟨(Ca h2),tt ⟨(AB op ws xs k w h),tt ⟨rfl,⟨⟨⟨⟨rfl,oK,oK⟩,⟨rfl,oK,oK⟩,⟨rfl,oK,oK⟩,oK⟩,⟨⟨rfl,oK,oK⟩,⟨rfl,oK,oK⟩,oK⟩,⟨⟨rfl,oK,oK⟩,⟨rfl,oK,oK⟩,oK⟩,⟨⟨rfl,oK,oK⟩,⟨rfl,oK,oK⟩,⟨rfl,(c8 (bu op ws k w)),oK⟩,oK⟩,⟨⟨rfl,oK,oK⟩,oK⟩,⟨⟨rfl,oK,oK⟩,⟨rfl,(c8 (bu op ws k w)),oK⟩,oK⟩,⟨⟨rfl,oK,oK⟩,⟨rfl,(c8 (bu op ws k w)),oK⟩,oK⟩,⟨⟨rfl,oK,oK⟩,⟨rfl,oK,oK⟩,oK⟩,⟨⟨rfl,(c8 (bu op ws k w)),oK⟩,oK⟩,⟨⟨rfl,oK,oK⟩,⟨rfl,oK,oK⟩,oK⟩,⟨⟨rfl,oK,oK⟩,oK⟩,⟨⟨rfl,oK,oK⟩,oK⟩,⟨⟨rfl,oK,oK⟩,oK⟩,⟨⟨rfl,oK,oK⟩,oK⟩,⟨⟨rfl,oK,oK⟩,oK⟩,oK,oK⟩,tt ⟨⟨rfl,rfl,rfl,oK⟩,rfl,rfl,oK⟩⟩⟩⟩⟩⟩⟩⟩⟩
 · have hS := hs0
   exact ⟨kA,tt ⟨(qH hS),tt ⟨ou,tt ⟨(qI (by omega)),tt ⟨(nF h1),tt ⟨(gW ws hw),tt ⟨(Ca h2),tt ⟨(AB op ws xs k w h),tt ⟨rfl,⟨⟨⟨⟨rfl,oK,oK⟩,⟨rfl,oK,oK⟩,⟨rfl,oK,oK⟩,oK⟩,⟨⟨rfl,oK,oK⟩,⟨rfl,oK,oK⟩,oK⟩,⟨⟨rfl,oK,oK⟩,⟨rfl,oK,oK⟩,oK⟩,⟨⟨rfl,oK,oK⟩,⟨rfl,oK,oK⟩,⟨rfl,(c8 (bu op ws k w)),oK⟩,oK⟩,⟨⟨rfl,oK,oK⟩,oK⟩,⟨⟨rfl,oK,oK⟩,⟨rfl,(c8 (bu op ws k w)),oK⟩,oK⟩,⟨⟨rfl,oK,oK⟩,⟨rfl,(c8 (bu op ws k w)),oK⟩,oK⟩,⟨⟨rfl,oK,oK⟩,⟨rfl,oK,oK⟩,oK⟩,⟨⟨rfl,(c8 (bu op ws k w)),oK⟩,oK⟩,⟨⟨rfl,oK,oK⟩,⟨rfl,oK,oK⟩,oK⟩,⟨⟨rfl,oK,oK⟩,oK⟩,⟨⟨rfl,oK,oK⟩,oK⟩,⟨⟨rfl,oK,oK⟩,oK⟩,⟨⟨rfl,oK,oK⟩,oK⟩,⟨⟨rfl,oK,oK⟩,oK⟩,oK,oK⟩,tt ⟨⟨rfl,rfl,rfl,oK⟩,rfl,rfl,oK⟩⟩⟩⟩⟩⟩⟩⟩⟩⟩⟩
abbrev xy (op : Int) (ws xs : List Int) (k w : Int) : Ct := ⟨53,[(i6 op),(.agg [(LI ws),(LI xs),(i6 k),(i6 w)])],true,(.tup [(.agg [(i6 0),(.v .nilf),(.v .nilf)]),(i6 0),(dB false)])⟩
theorem ss (op : Int) (ws xs : List Int) (k w : Int) (hw : ws.length ≤ 9223372036854775807) (h : uv op ws = false) : CC (xy op ws xs k w) := by
 refine ai.vc (V := TT 4 (CS (op = 2 ∨ op = 3 ∨ op = 4 ∨ op = 5 ∨ op = 6 ∨ op = 7 ∨ op = 8 ∨ op = 9) (CC zV∧TT 1 ((∃ (j : Nat) (e : Int × Value),ew[j]? = some e∧op = e.1∧(∀ e' ∈ ew.take j,op ≠ e'.1)∧sZ (D.ofVal e.2) (.agg [(aV op),(.fn (.func (dq op)) [] []),(.fn (.func (dr op)) [] [])]))∧TT 8 (CS ((ws.length : Int) = (bH op)) (TT 10 ((True∧(!decide ((ws.length : Int) = (bH op))) = false)∧TT 2 (CC (zR ws)∧TT 1 ((!(ws.all aq)) = true∧TT 7 (((0 : Int) = 0∧True∧True∧True)∧(0 : Int) = 0∧false = false∧True))))) (TT 10 ((True∧(!decide ((ws.length : Int) = (bH op))) = true)∧TT 11 (((0 : Int) = 0∧True∧True∧True)∧(0 : Int) = 0∧false = false∧True)))))) (CC zV∧TT 1 ((∀ e' ∈ ew,op ≠ e'.1)∧TT 8 (CS (op = 1 ∨ op = 10 ∨ op = 11 ∨ op = 12 ∨ op = 13) (CC Bh∧TT 1 ((∃ (j : Nat) (e : Int × Value),fa[j]? = some e∧op = e.1∧(∀ e' ∈ fa.take j,op ≠ e'.1)∧sZ (D.ofVal e.2) (.agg [(aV op),(.fn (.func (dq op)) [] []),(.fn (.func (dr op)) [] [])]))∧TT 5 (CS ((ws.length : Int) = (bH op)) (TT 10 ((True∧(!decide ((ws.length : Int) = (bH op))) = false)∧TT 2 (CC (zR ws)∧TT 1 ((!(ws.all aq)) = true∧TT 7 (((0 : Int) = 0∧True∧True∧True)∧(0 : Int) = 0∧false = false∧True))))) (TT 10 ((True∧(!decide ((ws.length : Int) = (bH op))) = true)∧TT 11 (((0 : Int) = 0∧True∧True∧True)∧(0 : Int) = 0∧false = false∧True)))))) (CC Bh∧TT 1 ((∀ e' ∈ fa,op ≠ e'.1)∧TT 27 (((0 : Int) = 0∧True∧True∧True)∧(0 : Int) = 0∧false = false∧True)))))))) (.s 1 (op = 2 ∨ op = 3 ∨ op = 4 ∨ op = 5 ∨ op = 6 ∨ op = 7 ∨ op = 8 ∨ op = 9) (.w 1 [(0,zV.O),(2,.ent (.agg [(aV op),(.fn (.func (dq op)) [] []),(.fn (.func (dr op)) [] [])]))] <| .s 4 ((ws.length : Int) = (bH op)) (.w 4 [(10,.val (dB false)),(13,(zR ws).O)] <| .t 38 (.e)) (.w 4 [(10,.val (dB true))] <| .e)) (.w 1 [(0,zV.O),(2,.idx none)] <| .s 3 (op = 1 ∨ op = 10 ∨ op = 11 ∨ op = 12 ∨ op = 13) (.w 3 [(0,Bh.O),(2,.ent (.agg [(aV op),(.fn (.func (dq op)) [] []),(.fn (.func (dr op)) [] [])]))] <| .s 4 ((ws.length : Int) = (bH op)) (.w 4 [(10,.val (dB false)),(13,(zR ws).O)] <| .t 38 (.e)) (.w 4 [(10,.val (dB true))] <| .e)) (.w 3 [(0,Bh.O),(2,.idx none)] <| .e))) Try.func53 rfl rfl rfl (by kernel_rfl) ?_
 refine tt ⟨fun hs0 => ?_,fun hs0 => ?_⟩
 · have hS := hs0
   refine ⟨kA,tt ⟨(qG hS),tt ⟨fun hs1 => ?_,fun hs1 => ?_⟩⟩⟩
   · exact tt ⟨(nF hs1),tt ⟨(gW ws hw),tt ⟨(CV (by rcases yz h with h5 | ⟨_,h5⟩; exact absurd (by assumption) h5; rw [h5]; simp)),tt ⟨⟨rfl,oK,oK,oK⟩,rfl,rfl,oK⟩⟩⟩⟩
   · exact tt ⟨(nT hs1),tt ⟨⟨rfl,oK,oK,oK⟩,rfl,rfl,oK⟩⟩
 · have hS := hs0
   refine ⟨kA,tt ⟨(qH hS),tt ⟨fun hs2 => ?_,fun hs2 => ?_⟩⟩⟩
   · have hO := hs2
     refine ⟨ou,tt ⟨(qI hO),tt ⟨fun hs3 => ?_,fun hs3 => ?_⟩⟩⟩
     · exact tt ⟨(nF hs3),tt ⟨(gW ws hw),tt ⟨(CV (by rcases yz h with h5 | ⟨_,h5⟩; exact absurd (by assumption) h5; rw [h5]; simp)),tt ⟨⟨rfl,oK,oK,oK⟩,rfl,rfl,oK⟩⟩⟩⟩
     · exact tt ⟨(nT hs3),tt ⟨⟨rfl,oK,oK,oK⟩,rfl,rfl,oK⟩⟩
   · have hO := hs2
     exact ⟨ou,tt ⟨(vA hO),tt ⟨⟨rfl,oK,oK,oK⟩,rfl,rfl,oK⟩⟩⟩
theorem lX {op : Int} {ws : List Int} {k w : Int} (h : uv op ws = true) (h2 : aq (bu op ws k w) = true) : ll op ws k w = true := by rw [vz,h,h2]; rfl
theorem ce {op : Int} {ws : List Int} {k w : Int} (h : ¬uv op ws = true) : ll op ws k w = false := by rw [vz,Bool.eq_false_iff.2 h]; rfl
theorem cf {op : Int} {ws : List Int} {k w : Int} (h2 : ¬aq (bu op ws k w) = true) : ll op ws k w = false := by rw [vz,Bool.eq_false_iff.2 h2,Bool.and_false]
theorem jD {op : Int} {ws : List Int} {k w : Int} (h : ll op ws k w = false) : 0 = fw op ws k w∧1 = jP op ws k w := by unfold fw jP; rw [h]; exact ⟨rfl,rfl⟩
theorem ow {op : Int} {ws : List Int} {k w : Int} (h : ll op ws k w = true) : bu op ws k w = fw op ws k w∧0 = jP op ws k w := by unfold fw jP; rw [h]; exact ⟨rfl,rfl⟩
abbrev CZ (op : Int) (ws : List Int) (k w : Int) : Ct := ⟨52,[(i6 op),(LI ws),(.agg [(i6 k),(i6 w)])],false,(.tup [(i6 (fw op ws k w)),(i6 (jP op ws k w))])⟩
theorem yI (op : Int) (ws : List Int) (k w : Int) (hw : ws.length ≤ 9223372036854775807) : CC (CZ op ws k w) := by
 refine ai.vc (V := TT 3 (CS (uv op ws = true) (TT 2 (((0 ≤ (0 : Int)∧0 < (2 : Int))∧True)∧TT 1 (((0 ≤ (1 : Int)∧1 < (2 : Int))∧True)∧TT 2 ((rn [] [(i6 op),(.agg [(LI ws),.nils,(i6 k),(i6 w)])] (xx op ws [] k w).as∧CC (xx op ws [] k w))∧TT 10 (CB (!(aq (bu op ws k w))) (TT 4 (((0 : Int) = (fw op ws k w)∧(1 : Int) = (jP op ws k w)∧True)∧(True∧True∧True))) (TT 5 (((bu op ws k w) = (fw op ws k w)∧(0 : Int) = (jP op ws k w)∧True)∧(True∧True∧True)))))))) (TT 2 (((0 ≤ (0 : Int)∧0 < (2 : Int))∧True)∧TT 1 (((0 ≤ (1 : Int)∧1 < (2 : Int))∧True)∧TT 2 ((rn [] [(i6 op),(.agg [(LI ws),.nils,(i6 k),(i6 w)])] (xy op ws [] k w).as∧CC (xy op ws [] k w))∧TT 14 (((0 : Int) = (fw op ws k w)∧(1 : Int) = (jP op ws k w)∧True)∧(True∧True∧True)))))))) (.s 1 (uv op ws = true) (.w 1 [(7,(xx op ws [] k w).O')] <| .b 24 (.e) (.e)) (.w 1 [(7,(xy op ws [] k w).O')] <| .e)) Try.func52 rfl rfl rfl (by kernel_rfl) ?_
 refine tt ⟨fun hs0 => ?_,fun hs0 => ?_⟩
 · have hb := hs0
   refine tt ⟨⟨by omega,oK⟩,tt ⟨⟨by omega,oK⟩,tt ⟨⟨⟨rfl,⟨rfl,rfl,rfl,rfl,oK⟩,oK⟩,(sr op ws [] k w hw hb)⟩,tt ⟨fun hc24 => ?_,fun hc24 => ?_⟩⟩⟩⟩
   · refine tt ⟨⟨?_,?_,oK⟩,⟨oK,oK,oK⟩⟩
     all_goals (first | exact (jD (ce hb)).1 | exact (jD (ce hb)).2 | exact (jD (cf (by simpa using hc24))).1 | exact (jD (cf (by simpa using hc24))).2 | exact (ow (lX hb (by simpa using hc24))).1 | exact (ow (lX hb (by simpa using hc24))).2)
   · refine tt ⟨⟨?_,?_,oK⟩,⟨oK,oK,oK⟩⟩
     all_goals (first | exact (jD (ce hb)).1 | exact (jD (ce hb)).2 | exact (jD (cf (by simpa using hc24))).1 | exact (jD (cf (by simpa using hc24))).2 | exact (ow (lX hb (by simpa using hc24))).1 | exact (ow (lX hb (by simpa using hc24))).2)
 · have hb := hs0
   refine tt ⟨⟨by omega,oK⟩,tt ⟨⟨by omega,oK⟩,tt ⟨⟨⟨rfl,⟨rfl,rfl,rfl,rfl,oK⟩,oK⟩,(ss op ws [] k w hw (Bool.eq_false_iff.2 hb))⟩,tt ⟨⟨?_,?_,oK⟩,⟨oK,oK,oK⟩⟩⟩⟩⟩
   all_goals (first | exact (jD (ce hb)).1 | exact (jD (ce hb)).2 | exact (jD (cf (by simpa using hc24))).1 | exact (jD (cf (by simpa using hc24))).2 | exact (ow (lX hb (by simpa using hc24))).1 | exact (ow (lX hb (by simpa using hc24))).2)
abbrev C0 (op : Int) (ws xs nums : List Int) : Ct := ⟨31,[(i6 op),(LI ws),(LI xs),(LI nums)],false,(.tup [(i6 (dp op ws xs nums)),(i6 (fS op ws xs nums))])⟩
abbrev mW (op : Int) (ws : List Int) (xs : List Int) (nums : List Int) : Lp (Nat) := iT [1,10,11,44,45,46] 11 (fun (i : Nat) => ⟨[(1,(LI ws)),(10,(.ptr 9 0 0 0)),(11,(.ptr 10 0 0 0)),(44,(LI xs)),(45,(i6 (xs.length : Int))),(46,(i6 (i : Int)))],[.dead,.dead,.dead,.dead,.dead,.dead,.dead,.dead,.dead,(.var 125 [(LI ws),(LI xs),(i6 (nums.getD 0 0)),(i6 (nums.getD 1 0))]),(.var 128 [(aV op),(.fn (.func (dq op)) [] []),(.fn (.func (dr op)) [] [])])]⟩) (fun (i : Nat) => i ≤ xs.length∧∀ j,j < i → 0 ≤ xs.getD j 0∧xs.getD j 0 ≤ af (ws.getD j 0)) (fun (i : Nat) => xs.length - i)
theorem yJ (op : Int) (ws xs nums : List Int) (hwl : ws.length ≤ 9223372036854775807) (hxl0 : xs.length ≤ 9223372036854775807) : CC (C0 op ws xs nums) := by
 refine ai.vc (V := TT 2 (CS ((nums.length : Int) = 2) (TT 3 ((True∧(!decide ((nums.length : Int) = 2)) = false)∧TT 6 (CN ((xs.length : Int) = (ws.length : Int)) (TT 4 (((0 : Int) = (dp op ws xs nums)∧(1 : Int) = (fS op ws xs nums)∧True)∧(True∧True∧True))) (TT 3 (IX 0 nums.length∧TT 2 (IX 1 nums.length∧TT 4 (CS (uv op ws = true) (TT 2 (CC (xx op ws xs (nums.getD 0 0) (nums.getD 1 0))∧TT 10 (CB (!(aq (bu op ws (nums.getD 0 0) (nums.getD 1 0)))) (TT 4 (((0 : Int) = (dp op ws xs nums)∧(1 : Int) = (fS op ws xs nums)∧True)∧(True∧True∧True))) (TT 3 (GO (mW op ws xs nums) 0 (∀ i,(mW op ws xs nums).inv i → TT 1 (CD ((i : Int) < (xs.length : Int)) (TT 1 (IX (i : Int) xs.length∧TT 3 (CS ((xs.getD i 0) < 0) (TT 2 ((True∧(decide ((xs.getD i 0) < 0)) = true)∧TT 12 (((0 : Int) = (dp op ws xs nums)∧(1 : Int) = (fS op ws xs nums)∧True)∧(True∧True∧True)))) (TT 2 ((True∧(decide ((xs.getD i 0) < 0)) = false)∧TT 3 (IX (i : Int) ws.length∧TT 1 (CC (yA (ws.getD i 0))∧TT 2 (CD ((xs.getD i 0) > (af (ws.getD i 0))) (TT 4 (((0 : Int) = (dp op ws xs nums)∧(1 : Int) = (fS op ws xs nums)∧True)∧(True∧True∧True))) (W6 ((i + 1 : Nat) : Int)∧TT 1 (AG (mW op ws xs nums) i (i + 1))))))))))) (TT 3 (GC (cV op ws xs (nums.getD 0 0) (nums.getD 1 0))∧TT 4 (((lm op ws xs (nums.getD 0 0) (nums.getD 1 0)) = (dp op ws xs nums)∧(0 : Int) = (fS op ws xs nums)∧True)∧(True∧True∧True))))))))))) (TT 2 (CC (xy op ws xs (nums.getD 0 0) (nums.getD 1 0))∧TT 14 (((0 : Int) = (dp op ws xs nums)∧(1 : Int) = (fS op ws xs nums)∧True)∧(True∧True∧True))))))))))) (TT 3 ((True∧(!decide ((nums.length : Int) = 2)) = true)∧TT 10 (((0 : Int) = (dp op ws xs nums)∧(1 : Int) = (fS op ws xs nums)∧True)∧(True∧True∧True)))))) (.s 1 ((nums.length : Int) = 2) (.w 1 [(3,.val (dB false))] <| .b 25 (.e) (.s 4 (uv op ws = true) (.w 4 [(2,(xx op ws xs (nums.getD 0 0) (nums.getD 1 0)).O)] <| .b 43 (.e) (.l (mW op ws xs nums) 0 (fun i => .b 47 (.s 10 ((xs.getD i 0) < 0) (.w 10 [(2,.val (dB true))] <| .e) (.w 10 [(2,.val (dB false)),(8,(yA (ws.getD i 0)).O)] <| .b 61 (.e) (.w 12 [(0,.val (i6 ((i + 1 : Nat) : Int)))] <| .e))) (.w 13 [(3,.callg none false (i6 (lm op ws xs (nums.getD 0 0) (nums.getD 1 0))))] <| .e)))) (.w 4 [(2,(xy op ws xs (nums.getD 0 0) (nums.getD 1 0)).O)] <| .e))) (.w 1 [(3,.val (dB true))] <| .e)) Try.func31 rfl rfl rfl (by kernel_rfl) ?_
 refine tt ⟨fun hs0 => ?_,fun hs0 => ?_⟩
 · refine tt ⟨(nF hs0),tt (cn (fun hc25 => ?_) (fun hc25 => ?_))⟩
   · refine tt ⟨⟨?_,?_,oK⟩,⟨oK,oK,oK⟩⟩
     all_goals (first | exact (aU (mK (by omega))).1.symm | exact (aU (mK (by omega))).2.symm | exact (aU (mL (by omega))).1.symm | exact (aU (mL (by omega))).2.symm | exact (aU (b5 (ce hb))).1.symm | exact (aU (b5 (ce hb))).2.symm | exact (aU (b5 (cf (by simpa using hc43)))).1.symm | exact (aU (b5 (cf (by simpa using hc43)))).2.symm | exact (aU (gV (i := i) (by omega) (by omega))).1.symm | exact (aU (gV (i := i) (by omega) (by omega))).2.symm | exact (ez hl2 hxl hok hin).1.symm | exact (ez hl2 hxl hok hin).2.symm)
   · refine tt ⟨ix,tt ⟨ix,tt ⟨fun hs1 => ?_,fun hs1 => ?_⟩⟩⟩
     · have hb := hs1
       refine tt ⟨(sr op ws xs (nums.getD 0 0) (nums.getD 1 0) hwl hb),tt ⟨fun hc43 => ?_,fun hc43 => ?_⟩⟩
       · refine tt ⟨⟨?_,?_,oK⟩,⟨oK,oK,oK⟩⟩
         all_goals (first | exact (aU (mK (by omega))).1.symm | exact (aU (mK (by omega))).2.symm | exact (aU (mL (by omega))).1.symm | exact (aU (mL (by omega))).2.symm | exact (aU (b5 (ce hb))).1.symm | exact (aU (b5 (ce hb))).2.symm | exact (aU (b5 (cf (by simpa using hc43)))).1.symm | exact (aU (b5 (cf (by simpa using hc43)))).2.symm | exact (aU (gV (i := i) (by omega) (by omega))).1.symm | exact (aU (gV (i := i) (by omega) (by omega))).2.symm | exact (ez hl2 hxl hok hin).1.symm | exact (ez hl2 hxl hok hin).2.symm)
       · refine tt ?_
         have hok := lX hb (by simpa using hc43)
         have hl2 : nums.length = 2 := by omega
         have hxl : xs.length = ws.length := by omega
         refine ⟨rfl,⟨by omega,fun j hj => by omega⟩,?_⟩
         intro i hinv
         obtain ⟨hi,hall⟩ := hinv
         refine tt (cd (fun hc47 => ?_) (fun hc47 => ?_))
         · refine tt ⟨ix,tt ⟨fun hs2 => ?_,fun hs2 => ?_⟩⟩
           · refine tt ⟨(vT hs2),tt ⟨⟨?_,?_,oK⟩,⟨oK,oK,oK⟩⟩⟩
             all_goals (first | exact (aU (mK (by omega))).1.symm | exact (aU (mK (by omega))).2.symm | exact (aU (mL (by omega))).1.symm | exact (aU (mL (by omega))).2.symm | exact (aU (b5 (ce hb))).1.symm | exact (aU (b5 (ce hb))).2.symm | exact (aU (b5 (cf (by simpa using hc43)))).1.symm | exact (aU (b5 (cf (by simpa using hc43)))).2.symm | exact (aU (gV (i := i) (by omega) (by omega))).1.symm | exact (aU (gV (i := i) (by omega) (by omega))).2.symm | exact (ez hl2 hxl hok hin).1.symm | exact (ez hl2 hxl hok hin).2.symm)
           · refine tt ⟨(vF hs2),tt ⟨ix,tt ⟨(mM (ws.getD i 0)),tt (cd (fun hc61 => ?_) (fun hc61 => ?_))⟩⟩⟩
             · refine tt ⟨⟨?_,?_,oK⟩,⟨oK,oK,oK⟩⟩
               all_goals (first | exact (aU (mK (by omega))).1.symm | exact (aU (mK (by omega))).2.symm | exact (aU (mL (by omega))).1.symm | exact (aU (mL (by omega))).2.symm | exact (aU (b5 (ce hb))).1.symm | exact (aU (b5 (ce hb))).2.symm | exact (aU (b5 (cf (by simpa using hc43)))).1.symm | exact (aU (b5 (cf (by simpa using hc43)))).2.symm | exact (aU (gV (i := i) (by omega) (by omega))).1.symm | exact (aU (gV (i := i) (by omega) (by omega))).2.symm | exact (ez hl2 hxl hok hin).1.symm | exact (ez hl2 hxl hok hin).2.symm)
             · refine ⟨w6,tt ⟨(i + 1),rfl,?_,(?_ : xs.length - (i + 1) < xs.length - i)⟩⟩
               · exact ⟨by omega,e9 hall ⟨by omega,by omega⟩⟩
               · omega
         · have hin : xr ws xs = true := yy (fun j hj => hall j (by omega))
           refine tt ⟨(Ci op ws xs _ _ hok hxl hin),tt ⟨⟨?_,?_,oK⟩,⟨oK,oK,oK⟩⟩⟩
           all_goals (first | exact (aU (mK (by omega))).1.symm | exact (aU (mK (by omega))).2.symm | exact (aU (mL (by omega))).1.symm | exact (aU (mL (by omega))).2.symm | exact (aU (b5 (ce hb))).1.symm | exact (aU (b5 (ce hb))).2.symm | exact (aU (b5 (cf (by simpa using hc43)))).1.symm | exact (aU (b5 (cf (by simpa using hc43)))).2.symm | exact (aU (gV (i := i) (by omega) (by omega))).1.symm | exact (aU (gV (i := i) (by omega) (by omega))).2.symm | exact (ez hl2 hxl hok hin).1.symm | exact (ez hl2 hxl hok hin).2.symm)
     · have hb := hs1
       refine tt ⟨(ss op ws xs (nums.getD 0 0) (nums.getD 1 0) hwl (Bool.eq_false_iff.2 hb)),tt ⟨⟨?_,?_,oK⟩,⟨oK,oK,oK⟩⟩⟩
       all_goals (first | exact (aU (mK (by omega))).1.symm | exact (aU (mK (by omega))).2.symm | exact (aU (mL (by omega))).1.symm | exact (aU (mL (by omega))).2.symm | exact (aU (b5 (ce hb))).1.symm | exact (aU (b5 (ce hb))).2.symm | exact (aU (b5 (cf (by simpa using hc43)))).1.symm | exact (aU (b5 (cf (by simpa using hc43)))).2.symm | exact (aU (gV (i := i) (by omega) (by omega))).1.symm | exact (aU (gV (i := i) (by omega) (by omega))).2.symm | exact (ez hl2 hxl hok hin).1.symm | exact (ez hl2 hxl hok hin).2.symm)
 · refine tt ⟨(nT hs0),tt ⟨⟨?_,?_,oK⟩,⟨oK,oK,oK⟩⟩⟩
   all_goals (first | exact (aU (mK (by omega))).1.symm | exact (aU (mK (by omega))).2.symm | exact (aU (mL (by omega))).1.symm | exact (aU (mL (by omega))).2.symm | exact (aU (b5 (ce hb))).1.symm | exact (aU (b5 (ce hb))).2.symm | exact (aU (b5 (cf (by simpa using hc43)))).1.symm | exact (aU (b5 (cf (by simpa using hc43)))).2.symm | exact (aU (gV (i := i) (by omega) (by omega))).1.symm | exact (aU (gV (i := i) (by omega) (by omega))).2.symm | exact (ez hl2 hxl hok hin).1.symm | exact (ez hl2 hxl hok hin).2.symm)
end Go.Proofs.Ytgfbfajaaaegjaa
