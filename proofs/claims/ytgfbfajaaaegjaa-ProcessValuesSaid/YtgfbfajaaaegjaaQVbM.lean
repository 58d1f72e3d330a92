/-
  Package bits: the tables of operators; Width, Apply.
-/
import Derived.Test.YtgfbfajaaaegjaaQVbB
namespace Go.Proofs.Ytgfbfajaaaegjaa
open Go.RowKit
set_option linter.unusedVariables false
set_option linter.unusedSimpArgs false
abbrev dH : ay := (.var 128 [(i6 0),(.v .nilf),(.v .nilf)])
abbrev aQ (op : Int) : D := (i6 (ba op))
abbrev cm : D := (.ptr 1 0 0 0)
abbrev cx : D := (.ptr 2 0 0 0)
set_option maxRecDepth 100000
def ex : List (Int × Value) := [(2,.agg #[.int .i64 1,.func (.func 78) #[] #[],.func (.func 79) #[] #[]]),(3,.agg #[.int .i64 2,.func (.func 81) #[] #[],.func (.func 82) #[] #[]]),(4,.agg #[.int .i64 2,.func (.func 81) #[] #[],.func (.func 83) #[] #[]]),(5,.agg #[.int .i64 2,.func (.func 81) #[] #[],.func (.func 84) #[] #[]]),(6,.agg #[.int .i64 2,.func (.func 81) #[] #[],.func (.func 85) #[] #[]]),(7,.agg #[.int .i64 2,.func (.func 81) #[] #[],.func (.func 86) #[] #[]]),(8,.agg #[.int .i64 2,.func (.func 87) #[] #[],.func (.func 88) #[] #[]]),(9,.agg #[.int .i64 2,.func (.func 87) #[] #[],.func (.func 90) #[] #[]])]
set_option maxHeartbeats 800000 in
theorem t1 (w : World) : Calls Try.prog 71 #[] w (fun e w' => ∃ arr : Array MapEntry,e = .returned (.map (some w.heap.size))∧w' = w.alloc (.map arr 8)∧arr.toList.map (fun e => (e.key,e.val)) = ex.map (fun e => (Value.int .i64 e.1,e.2))) := by
  go_enter Try.func71,Try.ntmps71
  go_wp2_with (first | (rw [pD]) | (rw [rj Try.underlying151 Try.underlying3 (by rfl)]))
  go_ret
  exact ⟨_,rfl,rfl,rfl⟩
abbrev Bg : Ct := ⟨71,[],false,.v (.mp ex)⟩
theorem kQ : CC Bg := ah.of_map t1
def fa : List (Int × Value) := [(1,.agg #[.int .i64 0,.func (.func 91) #[] #[],.func (.func 92) #[] #[]]),(10,.agg #[.int .i64 3,.func (.func 93) #[] #[],.func (.func 94) #[] #[]]),(11,.agg #[.int .i64 2,.func (.func 95) #[] #[],.func (.func 96) #[] #[]]),(12,.agg #[.int .i64 1,.func (.func 97) #[] #[],.func (.func 98) #[] #[]]),(13,.agg #[.int .i64 1,.func (.func 99) #[] #[],.func (.func 100) #[] #[]])]
set_option maxHeartbeats 800000 in
theorem t2 (w : World) : Calls Try.prog 72 #[] w (fun e w' => ∃ arr : Array MapEntry,e = .returned (.map (some w.heap.size))∧w' = w.alloc (.map arr 5)∧arr.toList.map (fun e => (e.key,e.val)) = fa.map (fun e => (Value.int .i64 e.1,e.2))) := by
  go_enter Try.func72,Try.ntmps72
  go_wp2_with (first | (rw [pD]) | (rw [rj Try.underlying151 Try.underlying3 (by rfl)]))
  go_ret
  exact ⟨_,rfl,rfl,rfl⟩
abbrev CO : Ct := ⟨72,[],false,.v (.mp fa)⟩
theorem oV : CC CO := ah.of_map t2
def dz (op : Int) : Nat :=
  if op = 1 then 91 else
  if op = 2 then 78 else
  if op = 3 then 81 else
  if op = 4 then 81 else
  if op = 5 then 81 else
  if op = 6 then 81 else
  if op = 7 then 81 else
  if op = 8 then 87 else
  if op = 9 then 87 else
  if op = 10 then 93 else
  if op = 11 then 95 else
  if op = 12 then 97 else
  if op = 13 then 99 else 0
def dA (op : Int) : Nat :=
  if op = 1 then 92 else
  if op = 2 then 79 else
  if op = 3 then 82 else
  if op = 4 then 83 else
  if op = 5 then 84 else
  if op = 6 then 85 else
  if op = 7 then 86 else
  if op = 8 then 88 else
  if op = 9 then 90 else
  if op = 10 then 94 else
  if op = 11 then 96 else
  if op = 12 then 98 else
  if op = 13 then 100 else 0
abbrev cW (op : Int) (ws xs : List Int) (k w : Int) : Ct := ⟨dz op,[(.agg [(LI ws),(LI xs),(i6 k),(i6 w)])],false,i6 (a7 op ws k w)⟩
abbrev cV (op : Int) (ws xs : List Int) (k w : Int) : Ct := ⟨dA op,[(.agg [(LI ws),(LI xs),(i6 k),(i6 w)])],false,i6 (gH op ws xs k w)⟩
theorem rm {op : Int} {ws : List Int} (h : vp op ws = true) : op = 1 ∨ op = 2 ∨ op = 3 ∨ op = 4 ∨ op = 5 ∨ op = 6 ∨ op = 7 ∨ op = 8 ∨ op = 9 ∨ op = 10 ∨ op = 11 ∨ op = 12 ∨ op = 13 := by
  have h1 := (t0 h).1
  by_cases hr : op < 1 ∨ 13 < op
  · have : ba op = -1 := by unfold ba; rw [if_neg (by omega),if_neg (by omega),if_neg (by omega),if_neg (by omega)]
    omega
  · omega
theorem B3 (op : Int) (ws xs : List Int) (k w : Int) (h : vp op ws = true) : GC (cW op ws xs k w) := by
  obtain ⟨h1,hf⟩ := t0 h
  rcases rm h with rfl | rfl | rfl | rfl | rfl | rfl | rfl | rfl | rfl | rfl | rfl | rfl | rfl
  · (have hl : (ws.length : Int) = 0 := h1); exact ⟨by kernel_rfl,yK ws xs k w (by omega) hf⟩
  · (have hl : (ws.length : Int) = 1 := h1); exact ⟨by kernel_rfl,zQ ws xs k w (by omega) hf⟩
  · (have hl : (ws.length : Int) = 2 := h1); exact ⟨by kernel_rfl,iM ws xs k w (by omega) hf⟩
  · (have hl : (ws.length : Int) = 2 := h1); exact ⟨by kernel_rfl,iM ws xs k w (by omega) hf⟩
  · (have hl : (ws.length : Int) = 2 := h1); exact ⟨by kernel_rfl,iM ws xs k w (by omega) hf⟩
  · (have hl : (ws.length : Int) = 2 := h1); exact ⟨by kernel_rfl,iM ws xs k w (by omega) hf⟩
  · (have hl : (ws.length : Int) = 2 := h1); exact ⟨by kernel_rfl,iM ws xs k w (by omega) hf⟩
  · (have hl : (ws.length : Int) = 2 := h1); exact ⟨by kernel_rfl,zR ws xs k w (by omega) hf⟩
  · (have hl : (ws.length : Int) = 2 := h1); exact ⟨by kernel_rfl,zR ws xs k w (by omega) hf⟩
  · (have hl : (ws.length : Int) = 3 := h1); exact ⟨by kernel_rfl,Bd ws xs k w (by omega) hf⟩
  · (have hl : (ws.length : Int) = 2 := h1); exact ⟨by kernel_rfl,Be ws xs k w (by omega) hf⟩
  · (have hl : (ws.length : Int) = 1 := h1); exact ⟨by kernel_rfl,yL ws xs k w (by omega) hf⟩
  · (have hl : (ws.length : Int) = 1 := h1); exact ⟨by kernel_rfl,Bf ws xs k w (by omega) hf⟩
theorem DS (op : Int) (ws xs : List Int) (k w : Int) (h : fL op ws k w = true) (hx : xs.length = ws.length) (hin : vn ws xs = true) : GC (cV op ws xs k w) := by
  obtain ⟨h1,hf,h3⟩ := iq h
  have hb : vp op ws = true := by unfold vp; rw [decide_eq_true h1,hf]; rfl
  rcases rm hb with rfl | rfl | rfl | rfl | rfl | rfl | rfl | rfl | rfl | rfl | rfl | rfl | rfl
  · (have hl : (ws.length : Int) = 0 := h1); exact ⟨by kernel_rfl,zS ws xs k w ⟨by omega,hf,hx,hin⟩⟩
  · (have hl : (ws.length : Int) = 1 := h1); exact ⟨by kernel_rfl,CE ws xs k w ⟨by omega,hf,hx,hin⟩⟩
  · (have hl : (ws.length : Int) = 2 := h1); exact ⟨by kernel_rfl,CF ws xs k w ⟨by omega,hf,hx,hin⟩⟩
  · (have hl : (ws.length : Int) = 2 := h1); exact ⟨by kernel_rfl,DP ws xs k w ⟨by omega,hf,hx,hin⟩⟩
  · (have hl : (ws.length : Int) = 2 := h1); exact ⟨by kernel_rfl,CG ws xs k w ⟨by omega,hf,hx,hin⟩⟩
  · (have hl : (ws.length : Int) = 2 := h1); exact ⟨by kernel_rfl,CH ws xs k w ⟨by omega,hf,hx,hin⟩⟩
  · (have hl : (ws.length : Int) = 2 := h1); exact ⟨by kernel_rfl,CI ws xs k w ⟨by omega,hf,hx,hin⟩⟩
  · (have hl : (ws.length : Int) = 2 := h1); exact ⟨by kernel_rfl,DQ ws xs k w ⟨by omega,hf,hx,hin⟩⟩
  · (have hl : (ws.length : Int) = 2 := h1); exact ⟨by kernel_rfl,DR ws xs k w ⟨by omega,hf,hx,hin⟩⟩
  · (have hl : (ws.length : Int) = 3 := h1); exact ⟨by kernel_rfl,CL ws xs k w ⟨by omega,hf,hx,hin⟩ (tY h)⟩
  · (have hl : (ws.length : Int) = 2 := h1); exact ⟨by kernel_rfl,CM ws xs k w ⟨by omega,hf,hx,hin⟩⟩
  · (have hl : (ws.length : Int) = 1 := h1); exact ⟨by kernel_rfl,zT ws xs k w ⟨by omega,hf,hx,hin⟩ (tZ h)⟩
  · (have hl : (ws.length : Int) = 1 := h1); exact ⟨by kernel_rfl,CJ ws xs k w ⟨by omega,hf,hx,hin⟩⟩
theorem rn {op : Int} (h : op = 2 ∨ op = 3 ∨ op = 4 ∨ op = 5 ∨ op = 6 ∨ op = 7 ∨ op = 8 ∨ op = 9) : ∃ (j : Nat) (e : Int × Value),ex[j]? = some e∧op = e.1∧(∀ e' ∈ ex.take j,op ≠ e'.1)∧tF (D.ofVal e.2) (.agg [(aQ op),(.fn (.func (dz op)) [] []),(.fn (.func (dA op)) [] [])]) := by
  rcases h with rfl | rfl | rfl | rfl | rfl | rfl | rfl | rfl
  · exact ⟨0,_,rfl,rfl,by decide,⟨rfl,rfl,rfl,oK⟩⟩
  · exact ⟨1,_,rfl,rfl,by decide,⟨rfl,rfl,rfl,oK⟩⟩
  · exact ⟨2,_,rfl,rfl,by decide,⟨rfl,rfl,rfl,oK⟩⟩
  · exact ⟨3,_,rfl,rfl,by decide,⟨rfl,rfl,rfl,oK⟩⟩
  · exact ⟨4,_,rfl,rfl,by decide,⟨rfl,rfl,rfl,oK⟩⟩
  · exact ⟨5,_,rfl,rfl,by decide,⟨rfl,rfl,rfl,oK⟩⟩
  · exact ⟨6,_,rfl,rfl,by decide,⟨rfl,rfl,rfl,oK⟩⟩
  · exact ⟨7,_,rfl,rfl,by decide,⟨rfl,rfl,rfl,oK⟩⟩
theorem rp {op : Int} (h : ¬(op = 2 ∨ op = 3 ∨ op = 4 ∨ op = 5 ∨ op = 6 ∨ op = 7 ∨ op = 8 ∨ op = 9)) : ∀ e' ∈ ex,op ≠ e'.1 := by
  intro e' he'
  simp only [ex,List.mem_cons,List.not_mem_nil,or_false] at he'
  rcases he' with rfl | rfl | rfl | rfl | rfl | rfl | rfl | rfl <;> simp only [ne_eq] <;> omega
theorem rq {op : Int} (h : op = 1 ∨ op = 10 ∨ op = 11 ∨ op = 12 ∨ op = 13) : ∃ (j : Nat) (e : Int × Value),fa[j]? = some e∧op = e.1∧(∀ e' ∈ fa.take j,op ≠ e'.1)∧tF (D.ofVal e.2) (.agg [(aQ op),(.fn (.func (dz op)) [] []),(.fn (.func (dA op)) [] [])]) := by
  rcases h with rfl | rfl | rfl | rfl | rfl
  · exact ⟨0,_,rfl,rfl,by decide,⟨rfl,rfl,rfl,oK⟩⟩
  · exact ⟨1,_,rfl,rfl,by decide,⟨rfl,rfl,rfl,oK⟩⟩
  · exact ⟨2,_,rfl,rfl,by decide,⟨rfl,rfl,rfl,oK⟩⟩
  · exact ⟨3,_,rfl,rfl,by decide,⟨rfl,rfl,rfl,oK⟩⟩
  · exact ⟨4,_,rfl,rfl,by decide,⟨rfl,rfl,rfl,oK⟩⟩
theorem wD {op : Int} (h : ¬(op = 1 ∨ op = 10 ∨ op = 11 ∨ op = 12 ∨ op = 13)) : ∀ e' ∈ fa,op ≠ e'.1 := by
  intro e' he'
  simp only [fa,List.mem_cons,List.not_mem_nil,or_false] at he'
  rcases he' with rfl | rfl | rfl | rfl | rfl <;> simp only [ne_eq] <;> omega
abbrev yN (op : Int) (ws xs : List Int) (k w : Int) : Ct := ⟨53,[(i6 op),(.agg [(LI ws),(LI xs),(i6 k),(i6 w)])],true,(.tup [(.agg [(aQ op),(.fn (.func (dz op)) [] []),(.fn (.func (dA op)) [] [])]),(i6 (a7 op ws k w)),(dB (ai (a7 op ws k w)))])⟩
def j4 (op : Int) (ws : List Int) (xs : List Int) (k : Int) (w : Int) : St := ⟨[(4,cm),(7,cx),(9,(i6 (a7 op ws k w)))],[(.var 125 [(LI ws),(LI xs),(i6 k),(i6 w)]),dH,(.var 128 [(aQ op),(.fn (.func (dz op)) [] []),(.fn (.func (dA op)) [] [])])]⟩
def pE (op : Int) (ws : List Int) (xs : List Int) (k : Int) (w : Int) : St := ⟨[(4,cm),(7,cx),(9,(i6 (a7 op ws k w))),(44,(.agg [(aQ op),(.fn (.func (dz op)) [] []),(.fn (.func (dA op)) [] [])]))],[(.var 125 [(LI ws),(LI xs),(i6 k),(i6 w)]),dH,(.var 128 [(aQ op),(.fn (.func (dz op)) [] []),(.fn (.func (dA op)) [] [])])]⟩
def pF (op : Int) (ws : List Int) (xs : List Int) (k : Int) (w : Int) : St := ⟨[(4,cm),(7,cx),(9,(i6 (a7 op ws k w))),(45,(i6 (a7 op ws k w)))],[(.var 125 [(LI ws),(LI xs),(i6 k),(i6 w)]),dH,(.var 128 [(aQ op),(.fn (.func (dz op)) [] []),(.fn (.func (dA op)) [] [])])]⟩
def pG (op : Int) (ws : List Int) (xs : List Int) (k : Int) (w : Int) : St := ⟨[(4,cm),(7,cx),(9,(i6 (a7 op ws k w))),(46,(i6 (a7 op ws k w)))],[(.var 125 [(LI ws),(LI xs),(i6 k),(i6 w)]),dH,(.var 128 [(aQ op),(.fn (.func (dz op)) [] []),(.fn (.func (dA op)) [] [])])]⟩
def j5 (op : Int) (ws : List Int) (xs : List Int) (k : Int) (w : Int) : St := ⟨[(4,cm),(7,cx),(9,(i6 (a7 op ws k w))),(44,(.agg [(aQ op),(.fn (.func (dz op)) [] []),(.fn (.func (dA op)) [] [])])),(45,(i6 (a7 op ws k w)))],[(.var 125 [(LI ws),(LI xs),(i6 k),(i6 w)]),dH,(.var 128 [(aQ op),(.fn (.func (dz op)) [] []),(.fn (.func (dA op)) [] [])])]⟩
def j6 (op : Int) (ws : List Int) (xs : List Int) (k : Int) (w : Int) : St := ⟨[(4,cm),(7,cx),(9,(i6 (a7 op ws k w))),(44,(.agg [(aQ op),(.fn (.func (dz op)) [] []),(.fn (.func (dA op)) [] [])])),(46,(i6 (a7 op ws k w)))],[(.var 125 [(LI ws),(LI xs),(i6 k),(i6 w)]),dH,(.var 128 [(aQ op),(.fn (.func (dz op)) [] []),(.fn (.func (dA op)) [] [])])]⟩
def j7 (op : Int) (ws : List Int) (xs : List Int) (k : Int) (w : Int) : St := ⟨[(4,cm),(7,cx),(9,(i6 (a7 op ws k w))),(45,(i6 (a7 op ws k w))),(46,(i6 (a7 op ws k w)))],[(.var 125 [(LI ws),(LI xs),(i6 k),(i6 w)]),dH,(.var 128 [(aQ op),(.fn (.func (dz op)) [] []),(.fn (.func (dA op)) [] [])])]⟩
def pH (op : Int) (ws : List Int) (xs : List Int) (k : Int) (w : Int) : St := ⟨[(4,cm),(7,cx),(9,(i6 (a7 op ws k w))),(46,(i6 (a7 op ws k w))),(47,(dB (ai (a7 op ws k w))))],[(.var 125 [(LI ws),(LI xs),(i6 k),(i6 w)]),dH,(.var 128 [(aQ op),(.fn (.func (dz op)) [] []),(.fn (.func (dA op)) [] [])])]⟩
def hJ (op : Int) (ws : List Int) (xs : List Int) (k : Int) (w : Int) : St := ⟨[(4,cm),(7,cx),(9,(i6 (a7 op ws k w))),(44,(.agg [(aQ op),(.fn (.func (dz op)) [] []),(.fn (.func (dA op)) [] [])])),(45,(i6 (a7 op ws k w))),(46,(i6 (a7 op ws k w)))],[(.var 125 [(LI ws),(LI xs),(i6 k),(i6 w)]),dH,(.var 128 [(aQ op),(.fn (.func (dz op)) [] []),(.fn (.func (dA op)) [] [])])]⟩
def j8 (op : Int) (ws : List Int) (xs : List Int) (k : Int) (w : Int) : St := ⟨[(4,cm),(7,cx),(9,(i6 (a7 op ws k w))),(44,(.agg [(aQ op),(.fn (.func (dz op)) [] []),(.fn (.func (dA op)) [] [])])),(46,(i6 (a7 op ws k w))),(47,(dB (ai (a7 op ws k w))))],[(.var 125 [(LI ws),(LI xs),(i6 k),(i6 w)]),dH,(.var 128 [(aQ op),(.fn (.func (dz op)) [] []),(.fn (.func (dA op)) [] [])])]⟩
def jh (op : Int) (ws : List Int) (xs : List Int) (k : Int) (w : Int) : St := ⟨[(4,cm),(7,cx),(9,(i6 (a7 op ws k w))),(45,(i6 (a7 op ws k w))),(46,(i6 (a7 op ws k w))),(47,(dB (ai (a7 op ws k w))))],[(.var 125 [(LI ws),(LI xs),(i6 k),(i6 w)]),dH,(.var 128 [(aQ op),(.fn (.func (dz op)) [] []),(.fn (.func (dA op)) [] [])])]⟩
def gg (op : Int) (ws : List Int) (xs : List Int) (k : Int) (w : Int) : St := ⟨[(4,cm),(7,cx),(9,(i6 (a7 op ws k w))),(44,(.agg [(aQ op),(.fn (.func (dz op)) [] []),(.fn (.func (dA op)) [] [])])),(45,(i6 (a7 op ws k w))),(46,(i6 (a7 op ws k w))),(47,(dB (ai (a7 op ws k w))))],[(.var 125 [(LI ws),(LI xs),(i6 k),(i6 w)]),dH,(.var 128 [(aQ op),(.fn (.func (dz op)) [] []),(.fn (.func (dA op)) [] [])])]⟩
def nd (op : Int) (ws : List Int) (xs : List Int) (k : Int) (w : Int) : St := ⟨[(4,cm),(7,cx),(9,(i6 (a7 op ws k w))),(44,(.agg [(aQ op),(.fn (.func (dz op)) [] []),(.fn (.func (dA op)) [] [])])),(46,(i6 (a7 op ws k w))),(47,(dB (ai (a7 op ws k w))))],[(.var 125 [(LI ws),(LI xs),(i6 k),(i6 w)]),(.var 128 [(aQ op),(.fn (.func (dz op)) [] []),(.fn (.func (dA op)) [] [])]),(.var 128 [(aQ op),(.fn (.func (dz op)) [] []),(.fn (.func (dA op)) [] [])])]⟩
def ji (op : Int) (ws : List Int) (xs : List Int) (k : Int) (w : Int) : St := ⟨[(4,cm),(7,cx),(9,(i6 (a7 op ws k w))),(44,(.agg [(aQ op),(.fn (.func (dz op)) [] []),(.fn (.func (dA op)) [] [])])),(45,(i6 (a7 op ws k w))),(46,(i6 (a7 op ws k w))),(47,(dB (ai (a7 op ws k w))))],[(.var 125 [(LI ws),(LI xs),(i6 k),(i6 w)]),(.var 128 [(aQ op),(.fn (.func (dz op)) [] []),(.fn (.func (dA op)) [] [])]),(.var 128 [(aQ op),(.fn (.func (dz op)) [] []),(.fn (.func (dA op)) [] [])])]⟩
def nf (op : Int) (ws : List Int) (xs : List Int) (k : Int) (w : Int) : St := ⟨[(4,cm),(5,(i6 (a7 op ws k w))),(7,cx),(9,(i6 (a7 op ws k w))),(44,(.agg [(aQ op),(.fn (.func (dz op)) [] []),(.fn (.func (dA op)) [] [])])),(45,(i6 (a7 op ws k w))),(46,(i6 (a7 op ws k w))),(47,(dB (ai (a7 op ws k w))))],[(.var 125 [(LI ws),(LI xs),(i6 k),(i6 w)]),(.var 128 [(aQ op),(.fn (.func (dz op)) [] []),(.fn (.func (dA op)) [] [])]),(.var 128 [(aQ op),(.fn (.func (dz op)) [] []),(.fn (.func (dA op)) [] [])])]⟩
def ng (op : Int) (ws : List Int) (xs : List Int) (k : Int) (w : Int) : St := ⟨[(4,cm),(5,(i6 (a7 op ws k w))),(6,(dB (ai (a7 op ws k w))))],[(.var 125 [(LI ws),(LI xs),(i6 k),(i6 w)]),(.var 128 [(aQ op),(.fn (.func (dz op)) [] []),(.fn (.func (dA op)) [] [])]),(.var 128 [(aQ op),(.fn (.func (dz op)) [] []),(.fn (.func (dA op)) [] [])])]⟩
def jj (op : Int) (ws : List Int) (xs : List Int) (k : Int) (w : Int) : St := ⟨[(4,cm),(7,cx),(9,(i6 (a7 op ws k w)))],[(.var 125 [(LI ws),(LI xs),(i6 k),(i6 w)]),dH,(.var 128 [(aQ op),(.fn (.func (dz op)) [] []),(.fn (.func (dA op)) [] [])])]⟩
def nh (op : Int) (ws : List Int) (xs : List Int) (k : Int) (w : Int) : St := ⟨[(4,cm),(7,cx),(9,(i6 (a7 op ws k w))),(44,(.agg [(aQ op),(.fn (.func (dz op)) [] []),(.fn (.func (dA op)) [] [])]))],[(.var 125 [(LI ws),(LI xs),(i6 k),(i6 w)]),dH,(.var 128 [(aQ op),(.fn (.func (dz op)) [] []),(.fn (.func (dA op)) [] [])])]⟩
def ni (op : Int) (ws : List Int) (xs : List Int) (k : Int) (w : Int) : St := ⟨[(4,cm),(7,cx),(9,(i6 (a7 op ws k w))),(45,(i6 (a7 op ws k w)))],[(.var 125 [(LI ws),(LI xs),(i6 k),(i6 w)]),dH,(.var 128 [(aQ op),(.fn (.func (dz op)) [] []),(.fn (.func (dA op)) [] [])])]⟩
def nj (op : Int) (ws : List Int) (xs : List Int) (k : Int) (w : Int) : St := ⟨[(4,cm),(7,cx),(9,(i6 (a7 op ws k w))),(46,(i6 (a7 op ws k w)))],[(.var 125 [(LI ws),(LI xs),(i6 k),(i6 w)]),dH,(.var 128 [(aQ op),(.fn (.func (dz op)) [] []),(.fn (.func (dA op)) [] [])])]⟩
def jk (op : Int) (ws : List Int) (xs : List Int) (k : Int) (w : Int) : St := ⟨[(4,cm),(7,cx),(9,(i6 (a7 op ws k w))),(44,(.agg [(aQ op),(.fn (.func (dz op)) [] []),(.fn (.func (dA op)) [] [])])),(45,(i6 (a7 op ws k w)))],[(.var 125 [(LI ws),(LI xs),(i6 k),(i6 w)]),dH,(.var 128 [(aQ op),(.fn (.func (dz op)) [] []),(.fn (.func (dA op)) [] [])])]⟩
def jl (op : Int) (ws : List Int) (xs : List Int) (k : Int) (w : Int) : St := ⟨[(4,cm),(7,cx),(9,(i6 (a7 op ws k w))),(44,(.agg [(aQ op),(.fn (.func (dz op)) [] []),(.fn (.func (dA op)) [] [])])),(46,(i6 (a7 op ws k w)))],[(.var 125 [(LI ws),(LI xs),(i6 k),(i6 w)]),dH,(.var 128 [(aQ op),(.fn (.func (dz op)) [] []),(.fn (.func (dA op)) [] [])])]⟩
def jm (op : Int) (ws : List Int) (xs : List Int) (k : Int) (w : Int) : St := ⟨[(4,cm),(7,cx),(9,(i6 (a7 op ws k w))),(45,(i6 (a7 op ws k w))),(46,(i6 (a7 op ws k w)))],[(.var 125 [(LI ws),(LI xs),(i6 k),(i6 w)]),dH,(.var 128 [(aQ op),(.fn (.func (dz op)) [] []),(.fn (.func (dA op)) [] [])])]⟩
def nk (op : Int) (ws : List Int) (xs : List Int) (k : Int) (w : Int) : St := ⟨[(4,cm),(7,cx),(9,(i6 (a7 op ws k w))),(46,(i6 (a7 op ws k w))),(47,(dB (ai (a7 op ws k w))))],[(.var 125 [(LI ws),(LI xs),(i6 k),(i6 w)]),dH,(.var 128 [(aQ op),(.fn (.func (dz op)) [] []),(.fn (.func (dA op)) [] [])])]⟩
def gh (op : Int) (ws : List Int) (xs : List Int) (k : Int) (w : Int) : St := ⟨[(4,cm),(7,cx),(9,(i6 (a7 op ws k w))),(44,(.agg [(aQ op),(.fn (.func (dz op)) [] []),(.fn (.func (dA op)) [] [])])),(45,(i6 (a7 op ws k w))),(46,(i6 (a7 op ws k w)))],[(.var 125 [(LI ws),(LI xs),(i6 k),(i6 w)]),dH,(.var 128 [(aQ op),(.fn (.func (dz op)) [] []),(.fn (.func (dA op)) [] [])])]⟩
def jn (op : Int) (ws : List Int) (xs : List Int) (k : Int) (w : Int) : St := ⟨[(4,cm),(7,cx),(9,(i6 (a7 op ws k w))),(44,(.agg [(aQ op),(.fn (.func (dz op)) [] []),(.fn (.func (dA op)) [] [])])),(46,(i6 (a7 op ws k w))),(47,(dB (ai (a7 op ws k w))))],[(.var 125 [(LI ws),(LI xs),(i6 k),(i6 w)]),dH,(.var 128 [(aQ op),(.fn (.func (dz op)) [] []),(.fn (.func (dA op)) [] [])])]⟩
def ir (op : Int) (ws : List Int) (xs : List Int) (k : Int) (w : Int) : St := ⟨[(4,cm),(7,cx),(9,(i6 (a7 op ws k w))),(45,(i6 (a7 op ws k w))),(46,(i6 (a7 op ws k w))),(47,(dB (ai (a7 op ws k w))))],[(.var 125 [(LI ws),(LI xs),(i6 k),(i6 w)]),dH,(.var 128 [(aQ op),(.fn (.func (dz op)) [] []),(.fn (.func (dA op)) [] [])])]⟩
def fB (op : Int) (ws : List Int) (xs : List Int) (k : Int) (w : Int) : St := ⟨[(4,cm),(7,cx),(9,(i6 (a7 op ws k w))),(44,(.agg [(aQ op),(.fn (.func (dz op)) [] []),(.fn (.func (dA op)) [] [])])),(45,(i6 (a7 op ws k w))),(46,(i6 (a7 op ws k w))),(47,(dB (ai (a7 op ws k w))))],[(.var 125 [(LI ws),(LI xs),(i6 k),(i6 w)]),dH,(.var 128 [(aQ op),(.fn (.func (dz op)) [] []),(.fn (.func (dA op)) [] [])])]⟩
def lX (op : Int) (ws : List Int) (xs : List Int) (k : Int) (w : Int) : St := ⟨[(4,cm),(7,cx),(9,(i6 (a7 op ws k w))),(44,(.agg [(aQ op),(.fn (.func (dz op)) [] []),(.fn (.func (dA op)) [] [])])),(46,(i6 (a7 op ws k w))),(47,(dB (ai (a7 op ws k w))))],[(.var 125 [(LI ws),(LI xs),(i6 k),(i6 w)]),(.var 128 [(aQ op),(.fn (.func (dz op)) [] []),(.fn (.func (dA op)) [] [])]),(.var 128 [(aQ op),(.fn (.func (dz op)) [] []),(.fn (.func (dA op)) [] [])])]⟩
def it (op : Int) (ws : List Int) (xs : List Int) (k : Int) (w : Int) : St := ⟨[(4,cm),(7,cx),(9,(i6 (a7 op ws k w))),(44,(.agg [(aQ op),(.fn (.func (dz op)) [] []),(.fn (.func (dA op)) [] [])])),(45,(i6 (a7 op ws k w))),(46,(i6 (a7 op ws k w))),(47,(dB (ai (a7 op ws k w))))],[(.var 125 [(LI ws),(LI xs),(i6 k),(i6 w)]),(.var 128 [(aQ op),(.fn (.func (dz op)) [] []),(.fn (.func (dA op)) [] [])]),(.var 128 [(aQ op),(.fn (.func (dz op)) [] []),(.fn (.func (dA op)) [] [])])]⟩
def lY (op : Int) (ws : List Int) (xs : List Int) (k : Int) (w : Int) : St := ⟨[(4,cm),(5,(i6 (a7 op ws k w))),(7,cx),(9,(i6 (a7 op ws k w))),(44,(.agg [(aQ op),(.fn (.func (dz op)) [] []),(.fn (.func (dA op)) [] [])])),(45,(i6 (a7 op ws k w))),(46,(i6 (a7 op ws k w))),(47,(dB (ai (a7 op ws k w))))],[(.var 125 [(LI ws),(LI xs),(i6 k),(i6 w)]),(.var 128 [(aQ op),(.fn (.func (dz op)) [] []),(.fn (.func (dA op)) [] [])]),(.var 128 [(aQ op),(.fn (.func (dz op)) [] []),(.fn (.func (dA op)) [] [])])]⟩
def lZ (op : Int) (ws : List Int) (xs : List Int) (k : Int) (w : Int) : St := ⟨[(4,cm),(5,(i6 (a7 op ws k w))),(6,(dB (ai (a7 op ws k w))))],[(.var 125 [(LI ws),(LI xs),(i6 k),(i6 w)]),(.var 128 [(aQ op),(.fn (.func (dz op)) [] []),(.fn (.func (dA op)) [] [])]),(.var 128 [(aQ op),(.fn (.func (dz op)) [] []),(.fn (.func (dA op)) [] [])])]⟩
theorem ta (op : Int) (ws xs : List Int) (k w : Int) (hw : ws.length ≤ 9223372036854775807) (h : vp op ws = true) : CC (yN op ws xs k w) := by
 obtain ⟨h1,h2⟩ := t0 h
 have hop := rm h
 refine ah.vc (V := TT 4 (CS (op = 2 ∨ op = 3 ∨ op = 4 ∨ op = 5 ∨ op = 6 ∨ op = 7 ∨ op = 8 ∨ op = 9) (CC Bg∧TT 1 ((∃ (j : Nat) (e : Int × Value),ex[j]? = some e∧op = e.1∧(∀ e' ∈ ex.take j,op ≠ e'.1)∧tF (D.ofVal e.2) (.agg [(aQ op),(.fn (.func (dz op)) [] []),(.fn (.func (dA op)) [] [])]))∧TT 18 ((True∧(!decide ((ws.length : Int) = (ba op))) = false)∧TT 2 (CC (Bc ws)∧TT 1 ((!(ws.all ai)) = false∧TT 3 (GC (cW op ws xs k w)∧TT 1 ((j4 op ws xs k w) = (j4 op ws xs k w)∧(((sE (pE op ws xs k w) (True))∧(sE (pF op ws xs k w) (True))∧(sE (pG op ws xs k w) (True))∧True)∧((sE (j5 op ws xs k w) (True))∧(sE (j6 op ws xs k w) (True))∧True)∧((sE (j5 op ws xs k w) (True))∧(sE (j7 op ws xs k w) (True))∧True)∧((sE (j6 op ws xs k w) (True))∧(sE (j7 op ws xs k w) (True))∧(sE (pH op ws xs k w) (CC (pZ (a7 op ws k w))))∧True)∧((sE (hJ op ws xs k w) (True))∧True)∧((sE (hJ op ws xs k w) (True))∧(sE (j8 op ws xs k w) (CC (pZ (a7 op ws k w))))∧True)∧((sE (hJ op ws xs k w) (True))∧(sE (jh op ws xs k w) (CC (pZ (a7 op ws k w))))∧True)∧((sE (j8 op ws xs k w) (True))∧(sE (jh op ws xs k w) (True))∧True)∧((sE (gg op ws xs k w) (CC (pZ (a7 op ws k w))))∧True)∧((sE (gg op ws xs k w) (True))∧(sE (nd op ws xs k w) (True))∧True)∧((sE (gg op ws xs k w) (True))∧True)∧((sE (ji op ws xs k w) (True))∧True)∧((sE (ji op ws xs k w) (True))∧True)∧((sE (nf op ws xs k w) (True))∧True)∧((sE (ng op ws xs k w) (True))∧True)∧True∧True)∧TT 3 (((ba op) = (ba op)∧((.fn (.func (dz op)) [] []) : D) = (.fn (.func (dz op)) [] [])∧((.fn (.func (dA op)) [] []) : D) = (.fn (.func (dA op)) [] [])∧True)∧(a7 op ws k w) = (a7 op ws k w)∧(ai (a7 op ws k w)) = (ai (a7 op ws k w))∧True)))))))) (CC Bg∧TT 1 ((∀ e' ∈ ex,op ≠ e'.1)∧TT 8 (CC CO∧TT 1 ((∃ (j : Nat) (e : Int × Value),fa[j]? = some e∧op = e.1∧(∀ e' ∈ fa.take j,op ≠ e'.1)∧tF (D.ofVal e.2) (.agg [(aQ op),(.fn (.func (dz op)) [] []),(.fn (.func (dA op)) [] [])]))∧TT 15 ((True∧(!decide ((ws.length : Int) = (ba op))) = false)∧TT 2 (CC (Bc ws)∧TT 1 ((!(ws.all ai)) = false∧TT 3 (GC (cW op ws xs k w)∧TT 1 ((jj op ws xs k w) = (jj op ws xs k w)∧(((sE (nh op ws xs k w) (True))∧(sE (ni op ws xs k w) (True))∧(sE (nj op ws xs k w) (True))∧True)∧((sE (jk op ws xs k w) (True))∧(sE (jl op ws xs k w) (True))∧True)∧((sE (jk op ws xs k w) (True))∧(sE (jm op ws xs k w) (True))∧True)∧((sE (jl op ws xs k w) (True))∧(sE (jm op ws xs k w) (True))∧(sE (nk op ws xs k w) (CC (pZ (a7 op ws k w))))∧True)∧((sE (gh op ws xs k w) (True))∧True)∧((sE (gh op ws xs k w) (True))∧(sE (jn op ws xs k w) (CC (pZ (a7 op ws k w))))∧True)∧((sE (gh op ws xs k w) (True))∧(sE (ir op ws xs k w) (CC (pZ (a7 op ws k w))))∧True)∧((sE (jn op ws xs k w) (True))∧(sE (ir op ws xs k w) (True))∧True)∧((sE (fB op ws xs k w) (CC (pZ (a7 op ws k w))))∧True)∧((sE (fB op ws xs k w) (True))∧(sE (lX op ws xs k w) (True))∧True)∧((sE (fB op ws xs k w) (True))∧True)∧((sE (it op ws xs k w) (True))∧True)∧((sE (it op ws xs k w) (True))∧True)∧((sE (lY op ws xs k w) (True))∧True)∧((sE (lZ op ws xs k w) (True))∧True)∧True∧True)∧TT 3 (((ba op) = (ba op)∧((.fn (.func (dz op)) [] []) : D) = (.fn (.func (dz op)) [] [])∧((.fn (.func (dA op)) [] []) : D) = (.fn (.func (dA op)) [] [])∧True)∧(a7 op ws k w) = (a7 op ws k w)∧(ai (a7 op ws k w)) = (ai (a7 op ws k w))∧True)))))))))))) (.s 1 (op = 2 ∨ op = 3 ∨ op = 4 ∨ op = 5 ∨ op = 6 ∨ op = 7 ∨ op = 8 ∨ op = 9) (.w 1 [(0,Bg.O),(2,.ent (.agg [(aQ op),(.fn (.func (dz op)) [] []),(.fn (.func (dA op)) [] [])]))] <| .w 4 [(10,.val (dB false)),(13,(Bc ws).O)] <| .u 38 (.w 6 [(3,.callg none false (i6 (a7 op ws k w)))] <| .y 7 [(3,(pZ (a7 op ws k w)).O)] [((bm 7 0),(j4 op ws xs k w)),((bm 7 1),(pE op ws xs k w)),((bm 7 2),(pF op ws xs k w)),((bm 7 4),(pG op ws xs k w)),((bm 7 3),(j5 op ws xs k w)),((bm 7 5),(j6 op ws xs k w)),((bm 7 6),(j7 op ws xs k w)),((bm 7 12),(pH op ws xs k w)),((bm 7 7),(hJ op ws xs k w)),((bm 7 13),(j8 op ws xs k w)),((bm 7 14),(jh op ws xs k w)),((bm 7 15),(gg op ws xs k w)),((bm 7 29),(nd op ws xs k w)),((bm 7 31),(ji op ws xs k w)),((bm 7 63),(nf op ws xs k w)),((bm 7 127),(ng op ws xs k w))] <| .e)) (.w 1 [(0,Bg.O),(2,.idx none)] <| .w 3 [(0,CO.O),(2,.ent (.agg [(aQ op),(.fn (.func (dz op)) [] []),(.fn (.func (dA op)) [] [])]))] <| .w 4 [(10,.val (dB false)),(13,(Bc ws).O)] <| .u 38 (.w 6 [(3,.callg none false (i6 (a7 op ws k w)))] <| .y 7 [(3,(pZ (a7 op ws k w)).O)] [((bm 7 0),(jj op ws xs k w)),((bm 7 1),(nh op ws xs k w)),((bm 7 2),(ni op ws xs k w)),((bm 7 4),(nj op ws xs k w)),((bm 7 3),(jk op ws xs k w)),((bm 7 5),(jl op ws xs k w)),((bm 7 6),(jm op ws xs k w)),((bm 7 12),(nk op ws xs k w)),((bm 7 7),(gh op ws xs k w)),((bm 7 13),(jn op ws xs k w)),((bm 7 14),(ir op ws xs k w)),((bm 7 15),(fB op ws xs k w)),((bm 7 29),(lX op ws xs k w)),((bm 7 31),(it op ws xs k w)),((bm 7 63),(lY op ws xs k w)),((bm 7 127),(lZ op ws xs k w))] <| .e))) Try.func53 rfl rfl rfl (by kernel_rfl) ?_
 refine tt ⟨fun hs0 => ?_,fun hs0 => ?_⟩
 · have hS := hs0
   exact ⟨kQ,tt ⟨(rn hS),tt ⟨(nF h1),tt ⟨(hD ws hw),tt ⟨(rh h2),tt ⟨(B3 op ws xs k w h),tt ⟨rfl,⟨⟨⟨⟨rfl,oK,oK⟩,⟨rfl,oK,oK⟩,⟨rfl,oK,oK⟩,oK⟩,⟨⟨rfl,oK,oK⟩,⟨rfl,oK,oK⟩,oK⟩,⟨⟨rfl,oK,oK⟩,⟨rfl,oK,oK⟩,oK⟩,⟨⟨rfl,oK,oK⟩,⟨rfl,oK,oK⟩,⟨rfl,(dh (a7 op ws k w)),oK⟩,oK⟩,⟨⟨rfl,oK,oK⟩,oK⟩,⟨⟨rfl,oK,oK⟩,⟨rfl,(dh (a7 op ws k w)),oK⟩,oK⟩,⟨⟨rfl,oK,oK⟩,⟨rfl,(dh (a7 op ws k w)),oK⟩,oK⟩,⟨⟨rfl,oK,oK⟩,⟨rfl,oK,oK⟩,oK⟩,⟨⟨rfl,(dh (a7 op ws k w)),oK⟩,oK⟩,⟨⟨rfl,oK,oK⟩,⟨rfl,oK,oK⟩,oK⟩,⟨⟨rfl,oK,oK⟩,oK⟩,⟨⟨rfl,oK,oK⟩,oK⟩,⟨⟨rfl,oK,oK⟩,oK⟩,⟨⟨rfl,oK,oK⟩,oK⟩,⟨⟨rfl,oK,oK⟩,oK⟩,oK,oK⟩,tt ⟨⟨rfl,rfl,rfl,oK⟩,rfl,rfl,oK⟩⟩⟩⟩⟩⟩⟩⟩⟩
 · have hS := hs0
   exact ⟨kQ,tt ⟨(rp hS),tt ⟨oV,tt ⟨(rq (by omega)),tt ⟨(nF h1),tt ⟨(hD ws hw),tt ⟨(rh h2),tt ⟨(B3 op ws xs k w h),tt ⟨rfl,⟨⟨⟨⟨rfl,oK,oK⟩,⟨rfl,oK,oK⟩,⟨rfl,oK,oK⟩,oK⟩,⟨⟨rfl,oK,oK⟩,⟨rfl,oK,oK⟩,oK⟩,⟨⟨rfl,oK,oK⟩,⟨rfl,oK,oK⟩,oK⟩,⟨⟨rfl,oK,oK⟩,⟨rfl,oK,oK⟩,⟨rfl,(dh (a7 op ws k w)),oK⟩,oK⟩,⟨⟨rfl,oK,oK⟩,oK⟩,⟨⟨rfl,oK,oK⟩,⟨rfl,(dh (a7 op ws k w)),oK⟩,oK⟩,⟨⟨rfl,oK,oK⟩,⟨rfl,(dh (a7 op ws k w)),oK⟩,oK⟩,⟨⟨rfl,oK,oK⟩,⟨rfl,oK,oK⟩,oK⟩,⟨⟨rfl,(dh (a7 op ws k w)),oK⟩,oK⟩,⟨⟨rfl,oK,oK⟩,⟨rfl,oK,oK⟩,oK⟩,⟨⟨rfl,oK,oK⟩,oK⟩,⟨⟨rfl,oK,oK⟩,oK⟩,⟨⟨rfl,oK,oK⟩,oK⟩,⟨⟨rfl,oK,oK⟩,oK⟩,⟨⟨rfl,oK,oK⟩,oK⟩,oK,oK⟩,tt ⟨⟨rfl,rfl,rfl,oK⟩,rfl,rfl,oK⟩⟩⟩⟩⟩⟩⟩⟩⟩⟩⟩
abbrev yO (op : Int) (ws xs : List Int) (k w : Int) : Ct := ⟨53,[(i6 op),(.agg [(LI ws),(LI xs),(i6 k),(i6 w)])],true,(.tup [(.agg [(i6 0),(.v .nilf),(.v .nilf)]),(i6 0),(dB false)])⟩
theorem tb (op : Int) (ws xs : List Int) (k w : Int) (hw : ws.length ≤ 9223372036854775807) (h : vp op ws = false) : CC (yO op ws xs k w) := by
 refine ah.vc (V := TT 4 (CS (op = 2 ∨ op = 3 ∨ op = 4 ∨ op = 5 ∨ op = 6 ∨ op = 7 ∨ op = 8 ∨ op = 9) (CC Bg∧TT 1 ((∃ (j : Nat) (e : Int × Value),ex[j]? = some e∧op = e.1∧(∀ e' ∈ ex.take j,op ≠ e'.1)∧tF (D.ofVal e.2) (.agg [(aQ op),(.fn (.func (dz op)) [] []),(.fn (.func (dA op)) [] [])]))∧TT 8 (CS ((ws.length : Int) = (ba op)) (TT 10 ((True∧(!decide ((ws.length : Int) = (ba op))) = false)∧TT 2 (CC (Bc ws)∧TT 1 ((!(ws.all ai)) = true∧TT 7 (((0 : Int) = 0∧True∧True∧True)∧(0 : Int) = 0∧false = false∧True))))) (TT 10 ((True∧(!decide ((ws.length : Int) = (ba op))) = true)∧TT 11 (((0 : Int) = 0∧True∧True∧True)∧(0 : Int) = 0∧false = false∧True)))))) (CC Bg∧TT 1 ((∀ e' ∈ ex,op ≠ e'.1)∧TT 8 (CS (op = 1 ∨ op = 10 ∨ op = 11 ∨ op = 12 ∨ op = 13) (CC CO∧TT 1 ((∃ (j : Nat) (e : Int × Value),fa[j]? = some e∧op = e.1∧(∀ e' ∈ fa.take j,op ≠ e'.1)∧tF (D.ofVal e.2) (.agg [(aQ op),(.fn (.func (dz op)) [] []),(.fn (.func (dA op)) [] [])]))∧TT 5 (CS ((ws.length : Int) = (ba op)) (TT 10 ((True∧(!decide ((ws.length : Int) = (ba op))) = false)∧TT 2 (CC (Bc ws)∧TT 1 ((!(ws.all ai)) = true∧TT 7 (((0 : Int) = 0∧True∧True∧True)∧(0 : Int) = 0∧false = false∧True))))) (TT 10 ((True∧(!decide ((ws.length : Int) = (ba op))) = true)∧TT 11 (((0 : Int) = 0∧True∧True∧True)∧(0 : Int) = 0∧false = false∧True)))))) (CC CO∧TT 1 ((∀ e' ∈ fa,op ≠ e'.1)∧TT 27 (((0 : Int) = 0∧True∧True∧True)∧(0 : Int) = 0∧false = false∧True)))))))) (.s 1 (op = 2 ∨ op = 3 ∨ op = 4 ∨ op = 5 ∨ op = 6 ∨ op = 7 ∨ op = 8 ∨ op = 9) (.w 1 [(0,Bg.O),(2,.ent (.agg [(aQ op),(.fn (.func (dz op)) [] []),(.fn (.func (dA op)) [] [])]))] <| .s 4 ((ws.length : Int) = (ba op)) (.w 4 [(10,.val (dB false)),(13,(Bc ws).O)] <| .t 38 (.e)) (.w 4 [(10,.val (dB true))] <| .e)) (.w 1 [(0,Bg.O),(2,.idx none)] <| .s 3 (op = 1 ∨ op = 10 ∨ op = 11 ∨ op = 12 ∨ op = 13) (.w 3 [(0,CO.O),(2,.ent (.agg [(aQ op),(.fn (.func (dz op)) [] []),(.fn (.func (dA op)) [] [])]))] <| .s 4 ((ws.length : Int) = (ba op)) (.w 4 [(10,.val (dB false)),(13,(Bc ws).O)] <| .t 38 (.e)) (.w 4 [(10,.val (dB true))] <| .e)) (.w 3 [(0,CO.O),(2,.idx none)] <| .e))) Try.func53 rfl rfl rfl (by kernel_rfl) ?_
 refine tt ⟨fun hs0 => ?_,fun hs0 => ?_⟩
 · have hS := hs0
   refine ⟨kQ,tt ⟨(rn hS),tt ⟨fun hs1 => ?_,fun hs1 => ?_⟩⟩⟩
   · exact tt ⟨(nF hs1),tt ⟨(hD ws hw),tt ⟨(EB (by rcases zL h with h5 | ⟨_,h5⟩; exact absurd (by assumption) h5; rw [h5]; simp)),tt ⟨⟨rfl,oK,oK,oK⟩,rfl,rfl,oK⟩⟩⟩⟩
   · exact tt ⟨(nT hs1),tt ⟨⟨rfl,oK,oK,oK⟩,rfl,rfl,oK⟩⟩
 · have hS := hs0
   refine ⟨kQ,tt ⟨(rp hS),tt ⟨fun hs2 => ?_,fun hs2 => ?_⟩⟩⟩
   · have hO := hs2
     refine ⟨oV,tt ⟨(rq hO),tt ⟨fun hs3 => ?_,fun hs3 => ?_⟩⟩⟩
     · exact tt ⟨(nF hs3),tt ⟨(hD ws hw),tt ⟨(EB (by rcases zL h with h5 | ⟨_,h5⟩; exact absurd (by assumption) h5; rw [h5]; simp)),tt ⟨⟨rfl,oK,oK,oK⟩,rfl,rfl,oK⟩⟩⟩⟩
     · exact tt ⟨(nT hs3),tt ⟨⟨rfl,oK,oK,oK⟩,rfl,rfl,oK⟩⟩
   · have hO := hs2
     exact ⟨oV,tt ⟨(wD hO),tt ⟨⟨rfl,oK,oK,oK⟩,rfl,rfl,oK⟩⟩⟩
theorem mi {op : Int} {ws : List Int} {k w : Int} (h : vp op ws = true) (h2 : ai (a7 op ws k w) = true) : fL op ws k w = true := by rw [wC,h,h2]; rfl
theorem cc {op : Int} {ws : List Int} {k w : Int} (h : ¬vp op ws = true) : fL op ws k w = false := by rw [wC,Bool.eq_false_iff.2 h]; rfl
theorem ce {op : Int} {ws : List Int} {k w : Int} (h2 : ¬ai (a7 op ws k w) = true) : fL op ws k w = false := by rw [wC,Bool.eq_false_iff.2 h2,Bool.and_false]
theorem jO {op : Int} {ws : List Int} {k w : Int} (h : fL op ws k w = false) : 0 = bl op ws k w∧1 = ip op ws k w := by unfold bl ip; rw [h]; exact ⟨rfl,rfl⟩
theorem oW {op : Int} {ws : List Int} {k w : Int} (h : fL op ws k w = true) : a7 op ws k w = bl op ws k w∧0 = ip op ws k w := by unfold bl ip; rw [h]; exact ⟨rfl,rfl⟩
abbrev DT (op : Int) (ws : List Int) (k w : Int) : Ct := ⟨52,[(i6 op),(LI ws),(.agg [(i6 k),(i6 w)])],false,(.tup [(i6 (bl op ws k w)),(i6 (ip op ws k w))])⟩
theorem vq (op : Int) (ws : List Int) (k w : Int) (hw : ws.length ≤ 9223372036854775807) : CC (DT op ws k w) := by
 refine ah.vc (V := TT 3 (CS (vp op ws = true) (TT 2 (((0 ≤ (0 : Int)∧0 < (2 : Int))∧True)∧TT 1 (((0 ≤ (1 : Int)∧1 < (2 : Int))∧True)∧TT 2 ((sa [] [(i6 op),(.agg [(LI ws),.nils,(i6 k),(i6 w)])] (yN op ws [] k w).as∧CC (yN op ws [] k w))∧TT 10 (CB (!(ai (a7 op ws k w))) (TT 4 (((0 : Int) = (bl op ws k w)∧(1 : Int) = (ip op ws k w)∧True)∧(True∧True∧True))) (TT 5 (((a7 op ws k w) = (bl op ws k w)∧(0 : Int) = (ip op ws k w)∧True)∧(True∧True∧True)))))))) (TT 2 (((0 ≤ (0 : Int)∧0 < (2 : Int))∧True)∧TT 1 (((0 ≤ (1 : Int)∧1 < (2 : Int))∧True)∧TT 2 ((sa [] [(i6 op),(.agg [(LI ws),.nils,(i6 k),(i6 w)])] (yO op ws [] k w).as∧CC (yO op ws [] k w))∧TT 14 (((0 : Int) = (bl op ws k w)∧(1 : Int) = (ip op ws k w)∧True)∧(True∧True∧True)))))))) (.s 1 (vp op ws = true) (.w 1 [(7,(yN op ws [] k w).O')] <| .b 24 (.e) (.e)) (.w 1 [(7,(yO op ws [] k w).O')] <| .e)) Try.func52 rfl rfl rfl (by kernel_rfl) ?_
 refine tt ⟨fun hs0 => ?_,fun hs0 => ?_⟩
 · have hb := hs0
   refine tt ⟨⟨by omega,oK⟩,tt ⟨⟨by omega,oK⟩,tt ⟨⟨⟨rfl,⟨rfl,rfl,rfl,rfl,oK⟩,oK⟩,(ta op ws [] k w hw hb)⟩,tt ⟨fun hc24 => ?_,fun hc24 => ?_⟩⟩⟩⟩
   · refine tt ⟨⟨?_,?_,oK⟩,⟨oK,oK,oK⟩⟩
     all_goals (first | exact (jO (cc hb)).1 | exact (jO (cc hb)).2 | exact (jO (ce (by simpa using hc24))).1 | exact (jO (ce (by simpa using hc24))).2 | exact (oW (mi hb (by simpa using hc24))).1 | exact (oW (mi hb (by simpa using hc24))).2)
   · refine tt ⟨⟨?_,?_,oK⟩,⟨oK,oK,oK⟩⟩
     all_goals (first | exact (jO (cc hb)).1 | exact (jO (cc hb)).2 | exact (jO (ce (by simpa using hc24))).1 | exact (jO (ce (by simpa using hc24))).2 | exact (oW (mi hb (by simpa using hc24))).1 | exact (oW (mi hb (by simpa using hc24))).2)
 · have hb := hs0
   refine tt ⟨⟨by omega,oK⟩,tt ⟨⟨by omega,oK⟩,tt ⟨⟨⟨rfl,⟨rfl,rfl,rfl,rfl,oK⟩,oK⟩,(tb op ws [] k w hw (Bool.eq_false_iff.2 hb))⟩,tt ⟨⟨?_,?_,oK⟩,⟨oK,oK,oK⟩⟩⟩⟩⟩
   all_goals (first | exact (jO (cc hb)).1 | exact (jO (cc hb)).2 | exact (jO (ce (by simpa using hc24))).1 | exact (jO (ce (by simpa using hc24))).2 | exact (oW (mi hb (by simpa using hc24))).1 | exact (oW (mi hb (by simpa using hc24))).2)
abbrev DU (op : Int) (ws xs nums : List Int) : Ct := ⟨31,[(i6 op),(LI ws),(LI xs),(LI nums)],false,(.tup [(i6 (ca op ws xs nums)),(i6 (fv op ws xs nums))])⟩
abbrev nl (op : Int) (ws : List Int) (xs : List Int) (nums : List Int) : Lp (Nat) := io [1,10,11,44,45,46] 11 (fun (i : Nat) => ⟨[(1,(LI ws)),(10,(.ptr 9 0 0 0)),(11,(.ptr 10 0 0 0)),(44,(LI xs)),(45,(i6 (xs.length : Int))),(46,(i6 (i : Int)))],[.dead,.dead,.dead,.dead,.dead,.dead,.dead,.dead,.dead,(.var 125 [(LI ws),(LI xs),(i6 (nums.getD 0 0)),(i6 (nums.getD 1 0))]),(.var 128 [(aQ op),(.fn (.func (dz op)) [] []),(.fn (.func (dA op)) [] [])])]⟩) (fun (i : Nat) => i ≤ xs.length∧∀ j,j < i → 0 ≤ xs.getD j 0∧xs.getD j 0 ≤ ae (ws.getD j 0)) (fun (i : Nat) => xs.length - i)
theorem vu (op : Int) (ws xs nums : List Int) (hwl : ws.length ≤ 9223372036854775807) (hxl0 : xs.length ≤ 9223372036854775807) : CC (DU op ws xs nums) := by
 refine ah.vc (V := TT 2 (CS ((nums.length : Int) = 2) (TT 3 ((True∧(!decide ((nums.length : Int) = 2)) = false)∧TT 6 (CN ((xs.length : Int) = (ws.length : Int)) (TT 4 (((0 : Int) = (ca op ws xs nums)∧(1 : Int) = (fv op ws xs nums)∧True)∧(True∧True∧True))) (TT 3 (IX 0 nums.length∧TT 2 (IX 1 nums.length∧TT 4 (CS (vp op ws = true) (TT 2 (CC (yN op ws xs (nums.getD 0 0) (nums.getD 1 0))∧TT 10 (CB (!(ai (a7 op ws (nums.getD 0 0) (nums.getD 1 0)))) (TT 4 (((0 : Int) = (ca op ws xs nums)∧(1 : Int) = (fv op ws xs nums)∧True)∧(True∧True∧True))) (TT 3 (GO (nl op ws xs nums) 0 (∀ i,(nl op ws xs nums).inv i → TT 1 (CD ((i : Int) < (xs.length : Int)) (TT 1 (IX (i : Int) xs.length∧TT 3 (CS ((xs.getD i 0) < 0) (TT 2 ((True∧(decide ((xs.getD i 0) < 0)) = true)∧TT 12 (((0 : Int) = (ca op ws xs nums)∧(1 : Int) = (fv op ws xs nums)∧True)∧(True∧True∧True)))) (TT 2 ((True∧(decide ((xs.getD i 0) < 0)) = false)∧TT 3 (IX (i : Int) ws.length∧TT 1 (CC (zM (ws.getD i 0))∧TT 2 (CD ((xs.getD i 0) > (ae (ws.getD i 0))) (TT 4 (((0 : Int) = (ca op ws xs nums)∧(1 : Int) = (fv op ws xs nums)∧True)∧(True∧True∧True))) (W6 ((i + 1 : Nat) : Int)∧TT 1 (AG (nl op ws xs nums) i (i + 1))))))))))) (TT 3 (GC (cV op ws xs (nums.getD 0 0) (nums.getD 1 0))∧TT 4 (((gH op ws xs (nums.getD 0 0) (nums.getD 1 0)) = (ca op ws xs nums)∧(0 : Int) = (fv op ws xs nums)∧True)∧(True∧True∧True))))))))))) (TT 2 (CC (yO op ws xs (nums.getD 0 0) (nums.getD 1 0))∧TT 14 (((0 : Int) = (ca op ws xs nums)∧(1 : Int) = (fv op ws xs nums)∧True)∧(True∧True∧True))))))))))) (TT 3 ((True∧(!decide ((nums.length : Int) = 2)) = true)∧TT 10 (((0 : Int) = (ca op ws xs nums)∧(1 : Int) = (fv op ws xs nums)∧True)∧(True∧True∧True)))))) (.s 1 ((nums.length : Int) = 2) (.w 1 [(3,.val (dB false))] <| .b 25 (.e) (.s 4 (vp op ws = true) (.w 4 [(2,(yN op ws xs (nums.getD 0 0) (nums.getD 1 0)).O)] <| .b 43 (.e) (.l (nl op ws xs nums) 0 (fun i => .b 47 (.s 10 ((xs.getD i 0) < 0) (.w 10 [(2,.val (dB true))] <| .e) (.w 10 [(2,.val (dB false)),(8,(zM (ws.getD i 0)).O)] <| .b 61 (.e) (.w 12 [(0,.val (i6 ((i + 1 : Nat) : Int)))] <| .e))) (.w 13 [(3,.callg none false (i6 (gH op ws xs (nums.getD 0 0) (nums.getD 1 0))))] <| .e)))) (.w 4 [(2,(yO op ws xs (nums.getD 0 0) (nums.getD 1 0)).O)] <| .e))) (.w 1 [(3,.val (dB true))] <| .e)) Try.func31 rfl rfl rfl (by kernel_rfl) ?_
 refine tt ⟨fun hs0 => ?_,fun hs0 => ?_⟩
 · refine tt ⟨(nF hs0),tt (cn (fun hc25 => ?_) (fun hc25 => ?_))⟩
   · refine tt ⟨⟨?_,?_,oK⟩,⟨oK,oK,oK⟩⟩
     all_goals (first | exact (aP (m5 (by omega))).1.symm | exact (aP (m5 (by omega))).2.symm | exact (aP (m6 (by omega))).1.symm | exact (aP (m6 (by omega))).2.symm | exact (aP (bZ (cc hb))).1.symm | exact (aP (bZ (cc hb))).2.symm | exact (aP (bZ (ce (by simpa using hc43)))).1.symm | exact (aP (bZ (ce (by simpa using hc43)))).2.symm | exact (aP (gZ (i := i) (by omega) (by omega))).1.symm | exact (aP (gZ (i := i) (by omega) (by omega))).2.symm | exact (cL hl2 hxl hok hin).1.symm | exact (cL hl2 hxl hok hin).2.symm)
   · refine tt ⟨ix,tt ⟨ix,tt ⟨fun hs1 => ?_,fun hs1 => ?_⟩⟩⟩
     · have hb := hs1
       refine tt ⟨(ta op ws xs (nums.getD 0 0) (nums.getD 1 0) hwl hb),tt ⟨fun hc43 => ?_,fun hc43 => ?_⟩⟩
       · refine tt ⟨⟨?_,?_,oK⟩,⟨oK,oK,oK⟩⟩
         all_goals (first | exact (aP (m5 (by omega))).1.symm | exact (aP (m5 (by omega))).2.symm | exact (aP (m6 (by omega))).1.symm | exact (aP (m6 (by omega))).2.symm | exact (aP (bZ (cc hb))).1.symm | exact (aP (bZ (cc hb))).2.symm | exact (aP (bZ (ce (by simpa using hc43)))).1.symm | exact (aP (bZ (ce (by simpa using hc43)))).2.symm | exact (aP (gZ (i := i) (by omega) (by omega))).1.symm | exact (aP (gZ (i := i) (by omega) (by omega))).2.symm | exact (cL hl2 hxl hok hin).1.symm | exact (cL hl2 hxl hok hin).2.symm)
       · refine tt ?_
         have hok := mi hb (by simpa using hc43)
         have hl2 : nums.length = 2 := by omega
         have hxl : xs.length = ws.length := by omega
         refine ⟨rfl,⟨by omega,fun j hj => by omega⟩,?_⟩
         intro i hinv
         obtain ⟨hi,hall⟩ := hinv
         refine tt (cd (fun hc47 => ?_) (fun hc47 => ?_))
         · refine tt ⟨ix,tt ⟨fun hs2 => ?_,fun hs2 => ?_⟩⟩
           · refine tt ⟨(vT hs2),tt ⟨⟨?_,?_,oK⟩,⟨oK,oK,oK⟩⟩⟩
             all_goals (first | exact (aP (m5 (by omega))).1.symm | exact (aP (m5 (by omega))).2.symm | exact (aP (m6 (by omega))).1.symm | exact (aP (m6 (by omega))).2.symm | exact (aP (bZ (cc hb))).1.symm | exact (aP (bZ (cc hb))).2.symm | exact (aP (bZ (ce (by simpa using hc43)))).1.symm | exact (aP (bZ (ce (by simpa using hc43)))).2.symm | exact (aP (gZ (i := i) (by omega) (by omega))).1.symm | exact (aP (gZ (i := i) (by omega) (by omega))).2.symm | exact (cL hl2 hxl hok hin).1.symm | exact (cL hl2 hxl hok hin).2.symm)
           · refine tt ⟨(vF hs2),tt ⟨ix,tt ⟨(na (ws.getD i 0)),tt (cd (fun hc61 => ?_) (fun hc61 => ?_))⟩⟩⟩
             · refine tt ⟨⟨?_,?_,oK⟩,⟨oK,oK,oK⟩⟩
               all_goals (first | exact (aP (m5 (by omega))).1.symm | exact (aP (m5 (by omega))).2.symm | exact (aP (m6 (by omega))).1.symm | exact (aP (m6 (by omega))).2.symm | exact (aP (bZ (cc hb))).1.symm | exact (aP (bZ (cc hb))).2.symm | exact (aP (bZ (ce (by simpa using hc43)))).1.symm | exact (aP (bZ (ce (by simpa using hc43)))).2.symm | exact (aP (gZ (i := i) (by omega) (by omega))).1.symm | exact (aP (gZ (i := i) (by omega) (by omega))).2.symm | exact (cL hl2 hxl hok hin).1.symm | exact (cL hl2 hxl hok hin).2.symm)
             · refine ⟨w6,tt ⟨(i + 1),rfl,?_,(?_ : xs.length - (i + 1) < xs.length - i)⟩⟩
               · exact ⟨by omega,ew hall ⟨by omega,by omega⟩⟩
               · omega
         · have hin : vn ws xs = true := zK (fun j hj => hall j (by omega))
           refine tt ⟨(DS op ws xs _ _ hok hxl hin),tt ⟨⟨?_,?_,oK⟩,⟨oK,oK,oK⟩⟩⟩
           all_goals (first | exact (aP (m5 (by omega))).1.symm | exact (aP (m5 (by omega))).2.symm | exact (aP (m6 (by omega))).1.symm | exact (aP (m6 (by omega))).2.symm | exact (aP (bZ (cc hb))).1.symm | exact (aP (bZ (cc hb))).2.symm | exact (aP (bZ (ce (by simpa using hc43)))).1.symm | exact (aP (bZ (ce (by simpa using hc43)))).2.symm | exact (aP (gZ (i := i) (by omega) (by omega))).1.symm | exact (aP (gZ (i := i) (by omega) (by omega))).2.symm | exact (cL hl2 hxl hok hin).1.symm | exact (cL hl2 hxl hok hin).2.symm)
     · have hb := hs1
       refine tt ⟨(tb op ws xs (nums.getD 0 0) (nums.getD 1 0) hwl (Bool.eq_false_iff.2 hb)),tt ⟨⟨?_,?_,oK⟩,⟨oK,oK,oK⟩⟩⟩
       all_goals (first | exact (aP (m5 (by omega))).1.symm | exact (aP (m5 (by omega))).2.symm | exact (aP (m6 (by omega))).1.symm | exact (aP (m6 (by omega))).2.symm | exact (aP (bZ (cc hb))).1.symm | exact (aP (bZ (cc hb))).2.symm | exact (aP (bZ (ce (by simpa using hc43)))).1.symm | exact (aP (bZ (ce (by simpa using hc43)))).2.symm | exact (aP (gZ (i := i) (by omega) (by omega))).1.symm | exact (aP (gZ (i := i) (by omega) (by omega))).2.symm | exact (cL hl2 hxl hok hin).1.symm | exact (cL hl2 hxl hok hin).2.symm)
 · refine tt ⟨(nT hs0),tt ⟨⟨?_,?_,oK⟩,⟨oK,oK,oK⟩⟩⟩
   all_goals (first | exact (aP (m5 (by omega))).1.symm | exact (aP (m5 (by omega))).2.symm | exact (aP (m6 (by omega))).1.symm | exact (aP (m6 (by omega))).2.symm | exact (aP (bZ (cc hb))).1.symm | exact (aP (bZ (cc hb))).2.symm | exact (aP (bZ (ce (by simpa using hc43)))).1.symm | exact (aP (bZ (ce (by simpa using hc43)))).2.symm | exact (aP (gZ (i := i) (by omega) (by omega))).1.symm | exact (aP (gZ (i := i) (by omega) (by omega))).2.symm | exact (cL hl2 hxl hok hin).1.symm | exact (cL hl2 hxl hok hin).2.symm)
end Go.Proofs.Ytgfbfajaaaegjaa
