/-
  Package bits: the tables of operators; Width, Apply.
-/
import Derived.Test.YtckgpflobhpnpaaGreatQVbB
namespace Go.Proofs.YtckgpflobhpnpaaGreat
open Go.RowKit
set_option linter.unusedVariables false
set_option linter.unusedSimpArgs false
abbrev dG : ao := (.var 216 [(i6 0),(.v .nilf),(.v .nilf)])
abbrev aU (op : Int) : D := (i6 (bC op))
abbrev ck : D := (.ptr 1 0 0 0)
abbrev cz : D := (.ptr 2 0 0 0)
set_option maxRecDepth 100000
def eK : List (Int × Value) := [(2,.agg #[.int .i64 1,.func (.func 127) #[] #[],.func (.func 128) #[] #[]]),(3,.agg #[.int .i64 2,.func (.func 130) #[] #[],.func (.func 131) #[] #[]]),(4,.agg #[.int .i64 2,.func (.func 130) #[] #[],.func (.func 132) #[] #[]]),(5,.agg #[.int .i64 2,.func (.func 130) #[] #[],.func (.func 133) #[] #[]]),(6,.agg #[.int .i64 2,.func (.func 130) #[] #[],.func (.func 134) #[] #[]]),(7,.agg #[.int .i64 2,.func (.func 130) #[] #[],.func (.func 135) #[] #[]]),(8,.agg #[.int .i64 2,.func (.func 136) #[] #[],.func (.func 137) #[] #[]]),(9,.agg #[.int .i64 2,.func (.func 136) #[] #[],.func (.func 139) #[] #[]])]
set_option maxHeartbeats 800000 in
theorem xC (w : World) : Calls Tryz.prog 123 #[] w (fun e w' => ∃ arr : Array MapEntry,e = .returned (.map (some w.heap.size))∧w' = w.alloc (.map arr 8)∧arr.toList.map (fun e => (e.key,e.val)) = eK.map (fun e => (Value.int .i64 e.1,e.2))) := by
  go_enter Tryz.func123,Tryz.ntmps123
  go_wp2_with (first | (rw [sA]) | (rw [uJ Tryz.underlying227 Tryz.underlying3 (by rfl)]))
  go_ret
  exact ⟨_,rfl,rfl,rfl⟩
abbrev xD : Ct := ⟨123,[],false,.v (.mp eK)⟩
theorem nh : CC xD := ah.of_map xC
def fo : List (Int × Value) := [(1,.agg #[.int .i64 0,.func (.func 140) #[] #[],.func (.func 141) #[] #[]]),(10,.agg #[.int .i64 3,.func (.func 142) #[] #[],.func (.func 143) #[] #[]]),(11,.agg #[.int .i64 2,.func (.func 144) #[] #[],.func (.func 145) #[] #[]]),(12,.agg #[.int .i64 1,.func (.func 146) #[] #[],.func (.func 147) #[] #[]]),(13,.agg #[.int .i64 1,.func (.func 148) #[] #[],.func (.func 149) #[] #[]])]
set_option maxHeartbeats 800000 in
theorem xE (w : World) : Calls Tryz.prog 124 #[] w (fun e w' => ∃ arr : Array MapEntry,e = .returned (.map (some w.heap.size))∧w' = w.alloc (.map arr 5)∧arr.toList.map (fun e => (e.key,e.val)) = fo.map (fun e => (Value.int .i64 e.1,e.2))) := by
  go_enter Tryz.func124,Tryz.ntmps124
  go_wp2_with (first | (rw [sA]) | (rw [uJ Tryz.underlying227 Tryz.underlying3 (by rfl)]))
  go_ret
  exact ⟨_,rfl,rfl,rfl⟩
abbrev AJ : Ct := ⟨124,[],false,.v (.mp fo)⟩
theorem rO : CC AJ := ah.of_map xE
def dy (op : Int) : Nat :=
  if op = 1 then 140 else
  if op = 2 then 127 else
  if op = 3 then 130 else
  if op = 4 then 130 else
  if op = 5 then 130 else
  if op = 6 then 130 else
  if op = 7 then 130 else
  if op = 8 then 136 else
  if op = 9 then 136 else
  if op = 10 then 142 else
  if op = 11 then 144 else
  if op = 12 then 146 else
  if op = 13 then 148 else 0
def dz (op : Int) : Nat :=
  if op = 1 then 141 else
  if op = 2 then 128 else
  if op = 3 then 131 else
  if op = 4 then 132 else
  if op = 5 then 133 else
  if op = 6 then 134 else
  if op = 7 then 135 else
  if op = 8 then 137 else
  if op = 9 then 139 else
  if op = 10 then 143 else
  if op = 11 then 145 else
  if op = 12 then 147 else
  if op = 13 then 149 else 0
abbrev cW (op : Int) (ws xs : List Int) (k w : Int) : Ct := ⟨dy op,[(.agg [(LI ws),(LI xs),(i6 k),(i6 w)])],false,i6 (bg op ws k w)⟩
abbrev cV (op : Int) (ws xs : List Int) (k w : Int) : Ct := ⟨dz op,[(.agg [(LI ws),(LI xs),(i6 k),(i6 w)])],false,i6 (ol op ws xs k w)⟩
theorem uL {op : Int} {ws : List Int} (h : zb op ws = true) : op = 1 ∨ op = 2 ∨ op = 3 ∨ op = 4 ∨ op = 5 ∨ op = 6 ∨ op = 7 ∨ op = 8 ∨ op = 9 ∨ op = 10 ∨ op = 11 ∨ op = 12 ∨ op = 13 := by
  have h1 := (xA h).1
  by_cases hr : op < 1 ∨ 13 < op
  · have : bC op = -1 := by unfold bC; rw [if_neg (by omega),if_neg (by omega),if_neg (by omega),if_neg (by omega)]
    omega
  · omega
theorem Jf (op : Int) (ws xs : List Int) (k w : Int) (h : zb op ws = true) : GC (cW op ws xs k w) := by
  obtain ⟨h1,hf⟩ := xA h
  rcases uL h with rfl | rfl | rfl | rfl | rfl | rfl | rfl | rfl | rfl | rfl | rfl | rfl | rfl
  · (have hl : (ws.length : Int) = 0 := h1); exact ⟨by kernel_rfl,DN ws xs k w (by omega) hf⟩
  · (have hl : (ws.length : Int) = 1 := h1); exact ⟨by kernel_rfl,FA ws xs k w (by omega) hf⟩
  · (have hl : (ws.length : Int) = 2 := h1); exact ⟨by kernel_rfl,jS ws xs k w (by omega) hf⟩
  · (have hl : (ws.length : Int) = 2 := h1); exact ⟨by kernel_rfl,jS ws xs k w (by omega) hf⟩
  · (have hl : (ws.length : Int) = 2 := h1); exact ⟨by kernel_rfl,jS ws xs k w (by omega) hf⟩
  · (have hl : (ws.length : Int) = 2 := h1); exact ⟨by kernel_rfl,jS ws xs k w (by omega) hf⟩
  · (have hl : (ws.length : Int) = 2 := h1); exact ⟨by kernel_rfl,jS ws xs k w (by omega) hf⟩
  · (have hl : (ws.length : Int) = 2 := h1); exact ⟨by kernel_rfl,FB ws xs k w (by omega) hf⟩
  · (have hl : (ws.length : Int) = 2 := h1); exact ⟨by kernel_rfl,FB ws xs k w (by omega) hf⟩
  · (have hl : (ws.length : Int) = 3 := h1); exact ⟨by kernel_rfl,H4 ws xs k w (by omega) hf⟩
  · (have hl : (ws.length : Int) = 2 := h1); exact ⟨by kernel_rfl,H5 ws xs k w (by omega) hf⟩
  · (have hl : (ws.length : Int) = 1 := h1); exact ⟨by kernel_rfl,DP ws xs k w (by omega) hf⟩
  · (have hl : (ws.length : Int) = 1 := h1); exact ⟨by kernel_rfl,H6 ws xs k w (by omega) hf⟩
theorem L2 (op : Int) (ws xs : List Int) (k w : Int) (h : oi op ws k w = true) (hx : xs.length = ws.length) (hin : DL ws xs = true) : GC (cV op ws xs k w) := by
  obtain ⟨h1,hf,h3⟩ := rN h
  have hb : zb op ws = true := by unfold zb; rw [decide_eq_true h1,hf]; rfl
  rcases uL hb with rfl | rfl | rfl | rfl | rfl | rfl | rfl | rfl | rfl | rfl | rfl | rfl | rfl
  · (have hl : (ws.length : Int) = 0 := h1); exact ⟨by kernel_rfl,FC ws xs k w ⟨by omega,hf,hx,hin⟩⟩
  · (have hl : (ws.length : Int) = 1 := h1); exact ⟨by kernel_rfl,J2 ws xs k w ⟨by omega,hf,hx,hin⟩⟩
  · (have hl : (ws.length : Int) = 2 := h1); exact ⟨by kernel_rfl,J3 ws xs k w ⟨by omega,hf,hx,hin⟩⟩
  · (have hl : (ws.length : Int) = 2 := h1); exact ⟨by kernel_rfl,LZ ws xs k w ⟨by omega,hf,hx,hin⟩⟩
  · (have hl : (ws.length : Int) = 2 := h1); exact ⟨by kernel_rfl,J4 ws xs k w ⟨by omega,hf,hx,hin⟩⟩
  · (have hl : (ws.length : Int) = 2 := h1); exact ⟨by kernel_rfl,J5 ws xs k w ⟨by omega,hf,hx,hin⟩⟩
  · (have hl : (ws.length : Int) = 2 := h1); exact ⟨by kernel_rfl,J6 ws xs k w ⟨by omega,hf,hx,hin⟩⟩
  · (have hl : (ws.length : Int) = 2 := h1); exact ⟨by kernel_rfl,L0 ws xs k w ⟨by omega,hf,hx,hin⟩⟩
  · (have hl : (ws.length : Int) = 2 := h1); exact ⟨by kernel_rfl,L1 ws xs k w ⟨by omega,hf,hx,hin⟩⟩
  · (have hl : (ws.length : Int) = 3 := h1); exact ⟨by kernel_rfl,J8 ws xs k w ⟨by omega,hf,hx,hin⟩ (Cb h)⟩
  · (have hl : (ws.length : Int) = 2 := h1); exact ⟨by kernel_rfl,J9 ws xs k w ⟨by omega,hf,hx,hin⟩⟩
  · (have hl : (ws.length : Int) = 1 := h1); exact ⟨by kernel_rfl,FD ws xs k w ⟨by omega,hf,hx,hin⟩ (Cc h)⟩
  · (have hl : (ws.length : Int) = 1 := h1); exact ⟨by kernel_rfl,J7 ws xs k w ⟨by omega,hf,hx,hin⟩⟩
theorem uM {op : Int} (h : op = 2 ∨ op = 3 ∨ op = 4 ∨ op = 5 ∨ op = 6 ∨ op = 7 ∨ op = 8 ∨ op = 9) : ∃ (j : Nat) (e : Int × Value),eK[j]? = some e∧op = e.1∧(∀ e' ∈ eK.take j,op ≠ e'.1)∧p5 (D.ofVal e.2) (.agg [(aU op),(.fn (.func (dy op)) [] []),(.fn (.func (dz op)) [] [])]) := by
  rcases h with rfl | rfl | rfl | rfl | rfl | rfl | rfl | rfl
  · exact ⟨0,_,rfl,rfl,by decide,⟨rfl,rfl,rfl,oK⟩⟩
  · exact ⟨1,_,rfl,rfl,by decide,⟨rfl,rfl,rfl,oK⟩⟩
  · exact ⟨2,_,rfl,rfl,by decide,⟨rfl,rfl,rfl,oK⟩⟩
  · exact ⟨3,_,rfl,rfl,by decide,⟨rfl,rfl,rfl,oK⟩⟩
  · exact ⟨4,_,rfl,rfl,by decide,⟨rfl,rfl,rfl,oK⟩⟩
  · exact ⟨5,_,rfl,rfl,by decide,⟨rfl,rfl,rfl,oK⟩⟩
  · exact ⟨6,_,rfl,rfl,by decide,⟨rfl,rfl,rfl,oK⟩⟩
  · exact ⟨7,_,rfl,rfl,by decide,⟨rfl,rfl,rfl,oK⟩⟩
theorem uN {op : Int} (h : ¬(op = 2 ∨ op = 3 ∨ op = 4 ∨ op = 5 ∨ op = 6 ∨ op = 7 ∨ op = 8 ∨ op = 9)) : ∀ e' ∈ eK,op ≠ e'.1 := by
  intro e' he'
  simp only [eK,List.mem_cons,List.not_mem_nil,or_false] at he'
  rcases he' with rfl | rfl | rfl | rfl | rfl | rfl | rfl | rfl <;> simp only [ne_eq] <;> omega
theorem uO {op : Int} (h : op = 1 ∨ op = 10 ∨ op = 11 ∨ op = 12 ∨ op = 13) : ∃ (j : Nat) (e : Int × Value),fo[j]? = some e∧op = e.1∧(∀ e' ∈ fo.take j,op ≠ e'.1)∧p5 (D.ofVal e.2) (.agg [(aU op),(.fn (.func (dy op)) [] []),(.fn (.func (dz op)) [] [])]) := by
  rcases h with rfl | rfl | rfl | rfl | rfl
  · exact ⟨0,_,rfl,rfl,by decide,⟨rfl,rfl,rfl,oK⟩⟩
  · exact ⟨1,_,rfl,rfl,by decide,⟨rfl,rfl,rfl,oK⟩⟩
  · exact ⟨2,_,rfl,rfl,by decide,⟨rfl,rfl,rfl,oK⟩⟩
  · exact ⟨3,_,rfl,rfl,by decide,⟨rfl,rfl,rfl,oK⟩⟩
  · exact ⟨4,_,rfl,rfl,by decide,⟨rfl,rfl,rfl,oK⟩⟩
theorem AK {op : Int} (h : ¬(op = 1 ∨ op = 10 ∨ op = 11 ∨ op = 12 ∨ op = 13)) : ∀ e' ∈ fo,op ≠ e'.1 := by
  intro e' he'
  simp only [fo,List.mem_cons,List.not_mem_nil,or_false] at he'
  rcases he' with rfl | rfl | rfl | rfl | rfl <;> simp only [ne_eq] <;> omega
abbrev DR (op : Int) (ws xs : List Int) (k w : Int) : Ct := ⟨117,[(i6 op),(.agg [(LI ws),(LI xs),(i6 k),(i6 w)])],true,(.tup [(.agg [(aU op),(.fn (.func (dy op)) [] []),(.fn (.func (dz op)) [] [])]),(i6 (bg op ws k w)),(dB (av (bg op ws k w)))])⟩
def mc (op : Int) (ws : List Int) (xs : List Int) (k : Int) (w : Int) : St := ⟨[(4,ck),(7,cz),(9,(i6 (bg op ws k w)))],[(.var 213 [(LI ws),(LI xs),(i6 k),(i6 w)]),dG,(.var 216 [(aU op),(.fn (.func (dy op)) [] []),(.fn (.func (dz op)) [] [])])]⟩
def sB (op : Int) (ws : List Int) (xs : List Int) (k : Int) (w : Int) : St := ⟨[(4,ck),(7,cz),(9,(i6 (bg op ws k w))),(44,(.agg [(aU op),(.fn (.func (dy op)) [] []),(.fn (.func (dz op)) [] [])]))],[(.var 213 [(LI ws),(LI xs),(i6 k),(i6 w)]),dG,(.var 216 [(aU op),(.fn (.func (dy op)) [] []),(.fn (.func (dz op)) [] [])])]⟩
def sC (op : Int) (ws : List Int) (xs : List Int) (k : Int) (w : Int) : St := ⟨[(4,ck),(7,cz),(9,(i6 (bg op ws k w))),(45,(i6 (bg op ws k w)))],[(.var 213 [(LI ws),(LI xs),(i6 k),(i6 w)]),dG,(.var 216 [(aU op),(.fn (.func (dy op)) [] []),(.fn (.func (dz op)) [] [])])]⟩
def sD (op : Int) (ws : List Int) (xs : List Int) (k : Int) (w : Int) : St := ⟨[(4,ck),(7,cz),(9,(i6 (bg op ws k w))),(46,(i6 (bg op ws k w)))],[(.var 213 [(LI ws),(LI xs),(i6 k),(i6 w)]),dG,(.var 216 [(aU op),(.fn (.func (dy op)) [] []),(.fn (.func (dz op)) [] [])])]⟩
def md (op : Int) (ws : List Int) (xs : List Int) (k : Int) (w : Int) : St := ⟨[(4,ck),(7,cz),(9,(i6 (bg op ws k w))),(44,(.agg [(aU op),(.fn (.func (dy op)) [] []),(.fn (.func (dz op)) [] [])])),(45,(i6 (bg op ws k w)))],[(.var 213 [(LI ws),(LI xs),(i6 k),(i6 w)]),dG,(.var 216 [(aU op),(.fn (.func (dy op)) [] []),(.fn (.func (dz op)) [] [])])]⟩
def mf (op : Int) (ws : List Int) (xs : List Int) (k : Int) (w : Int) : St := ⟨[(4,ck),(7,cz),(9,(i6 (bg op ws k w))),(44,(.agg [(aU op),(.fn (.func (dy op)) [] []),(.fn (.func (dz op)) [] [])])),(46,(i6 (bg op ws k w)))],[(.var 213 [(LI ws),(LI xs),(i6 k),(i6 w)]),dG,(.var 216 [(aU op),(.fn (.func (dy op)) [] []),(.fn (.func (dz op)) [] [])])]⟩
def mh (op : Int) (ws : List Int) (xs : List Int) (k : Int) (w : Int) : St := ⟨[(4,ck),(7,cz),(9,(i6 (bg op ws k w))),(45,(i6 (bg op ws k w))),(46,(i6 (bg op ws k w)))],[(.var 213 [(LI ws),(LI xs),(i6 k),(i6 w)]),dG,(.var 216 [(aU op),(.fn (.func (dy op)) [] []),(.fn (.func (dz op)) [] [])])]⟩
def sF (op : Int) (ws : List Int) (xs : List Int) (k : Int) (w : Int) : St := ⟨[(4,ck),(7,cz),(9,(i6 (bg op ws k w))),(46,(i6 (bg op ws k w))),(47,(dB (av (bg op ws k w))))],[(.var 213 [(LI ws),(LI xs),(i6 k),(i6 w)]),dG,(.var 216 [(aU op),(.fn (.func (dy op)) [] []),(.fn (.func (dz op)) [] [])])]⟩
def jk (op : Int) (ws : List Int) (xs : List Int) (k : Int) (w : Int) : St := ⟨[(4,ck),(7,cz),(9,(i6 (bg op ws k w))),(44,(.agg [(aU op),(.fn (.func (dy op)) [] []),(.fn (.func (dz op)) [] [])])),(45,(i6 (bg op ws k w))),(46,(i6 (bg op ws k w)))],[(.var 213 [(LI ws),(LI xs),(i6 k),(i6 w)]),dG,(.var 216 [(aU op),(.fn (.func (dy op)) [] []),(.fn (.func (dz op)) [] [])])]⟩
def mi (op : Int) (ws : List Int) (xs : List Int) (k : Int) (w : Int) : St := ⟨[(4,ck),(7,cz),(9,(i6 (bg op ws k w))),(44,(.agg [(aU op),(.fn (.func (dy op)) [] []),(.fn (.func (dz op)) [] [])])),(46,(i6 (bg op ws k w))),(47,(dB (av (bg op ws k w))))],[(.var 213 [(LI ws),(LI xs),(i6 k),(i6 w)]),dG,(.var 216 [(aU op),(.fn (.func (dy op)) [] []),(.fn (.func (dz op)) [] [])])]⟩
def kC (op : Int) (ws : List Int) (xs : List Int) (k : Int) (w : Int) : St := ⟨[(4,ck),(7,cz),(9,(i6 (bg op ws k w))),(45,(i6 (bg op ws k w))),(46,(i6 (bg op ws k w))),(47,(dB (av (bg op ws k w))))],[(.var 213 [(LI ws),(LI xs),(i6 k),(i6 w)]),dG,(.var 216 [(aU op),(.fn (.func (dy op)) [] []),(.fn (.func (dz op)) [] [])])]⟩
def ib (op : Int) (ws : List Int) (xs : List Int) (k : Int) (w : Int) : St := ⟨[(4,ck),(7,cz),(9,(i6 (bg op ws k w))),(44,(.agg [(aU op),(.fn (.func (dy op)) [] []),(.fn (.func (dz op)) [] [])])),(45,(i6 (bg op ws k w))),(46,(i6 (bg op ws k w))),(47,(dB (av (bg op ws k w))))],[(.var 213 [(LI ws),(LI xs),(i6 k),(i6 w)]),dG,(.var 216 [(aU op),(.fn (.func (dy op)) [] []),(.fn (.func (dz op)) [] [])])]⟩
def qs (op : Int) (ws : List Int) (xs : List Int) (k : Int) (w : Int) : St := ⟨[(4,ck),(7,cz),(9,(i6 (bg op ws k w))),(44,(.agg [(aU op),(.fn (.func (dy op)) [] []),(.fn (.func (dz op)) [] [])])),(46,(i6 (bg op ws k w))),(47,(dB (av (bg op ws k w))))],[(.var 213 [(LI ws),(LI xs),(i6 k),(i6 w)]),(.var 216 [(aU op),(.fn (.func (dy op)) [] []),(.fn (.func (dz op)) [] [])]),(.var 216 [(aU op),(.fn (.func (dy op)) [] []),(.fn (.func (dz op)) [] [])])]⟩
def kD (op : Int) (ws : List Int) (xs : List Int) (k : Int) (w : Int) : St := ⟨[(4,ck),(7,cz),(9,(i6 (bg op ws k w))),(44,(.agg [(aU op),(.fn (.func (dy op)) [] []),(.fn (.func (dz op)) [] [])])),(45,(i6 (bg op ws k w))),(46,(i6 (bg op ws k w))),(47,(dB (av (bg op ws k w))))],[(.var 213 [(LI ws),(LI xs),(i6 k),(i6 w)]),(.var 216 [(aU op),(.fn (.func (dy op)) [] []),(.fn (.func (dz op)) [] [])]),(.var 216 [(aU op),(.fn (.func (dy op)) [] []),(.fn (.func (dz op)) [] [])])]⟩
def qt (op : Int) (ws : List Int) (xs : List Int) (k : Int) (w : Int) : St := ⟨[(4,ck),(5,(i6 (bg op ws k w))),(7,cz),(9,(i6 (bg op ws k w))),(44,(.agg [(aU op),(.fn (.func (dy op)) [] []),(.fn (.func (dz op)) [] [])])),(45,(i6 (bg op ws k w))),(46,(i6 (bg op ws k w))),(47,(dB (av (bg op ws k w))))],[(.var 213 [(LI ws),(LI xs),(i6 k),(i6 w)]),(.var 216 [(aU op),(.fn (.func (dy op)) [] []),(.fn (.func (dz op)) [] [])]),(.var 216 [(aU op),(.fn (.func (dy op)) [] []),(.fn (.func (dz op)) [] [])])]⟩
def qu (op : Int) (ws : List Int) (xs : List Int) (k : Int) (w : Int) : St := ⟨[(4,ck),(5,(i6 (bg op ws k w))),(6,(dB (av (bg op ws k w))))],[(.var 213 [(LI ws),(LI xs),(i6 k),(i6 w)]),(.var 216 [(aU op),(.fn (.func (dy op)) [] []),(.fn (.func (dz op)) [] [])]),(.var 216 [(aU op),(.fn (.func (dy op)) [] []),(.fn (.func (dz op)) [] [])])]⟩
def kE (op : Int) (ws : List Int) (xs : List Int) (k : Int) (w : Int) : St := ⟨[(4,ck),(7,cz),(9,(i6 (bg op ws k w)))],[(.var 213 [(LI ws),(LI xs),(i6 k),(i6 w)]),dG,(.var 216 [(aU op),(.fn (.func (dy op)) [] []),(.fn (.func (dz op)) [] [])])]⟩
def qv (op : Int) (ws : List Int) (xs : List Int) (k : Int) (w : Int) : St := ⟨[(4,ck),(7,cz),(9,(i6 (bg op ws k w))),(44,(.agg [(aU op),(.fn (.func (dy op)) [] []),(.fn (.func (dz op)) [] [])]))],[(.var 213 [(LI ws),(LI xs),(i6 k),(i6 w)]),dG,(.var 216 [(aU op),(.fn (.func (dy op)) [] []),(.fn (.func (dz op)) [] [])])]⟩
def qw (op : Int) (ws : List Int) (xs : List Int) (k : Int) (w : Int) : St := ⟨[(4,ck),(7,cz),(9,(i6 (bg op ws k w))),(45,(i6 (bg op ws k w)))],[(.var 213 [(LI ws),(LI xs),(i6 k),(i6 w)]),dG,(.var 216 [(aU op),(.fn (.func (dy op)) [] []),(.fn (.func (dz op)) [] [])])]⟩
def qx (op : Int) (ws : List Int) (xs : List Int) (k : Int) (w : Int) : St := ⟨[(4,ck),(7,cz),(9,(i6 (bg op ws k w))),(46,(i6 (bg op ws k w)))],[(.var 213 [(LI ws),(LI xs),(i6 k),(i6 w)]),dG,(.var 216 [(aU op),(.fn (.func (dy op)) [] []),(.fn (.func (dz op)) [] [])])]⟩
def kF (op : Int) (ws : List Int) (xs : List Int) (k : Int) (w : Int) : St := ⟨[(4,ck),(7,cz),(9,(i6 (bg op ws k w))),(44,(.agg [(aU op),(.fn (.func (dy op)) [] []),(.fn (.func (dz op)) [] [])])),(45,(i6 (bg op ws k w)))],[(.var 213 [(LI ws),(LI xs),(i6 k),(i6 w)]),dG,(.var 216 [(aU op),(.fn (.func (dy op)) [] []),(.fn (.func (dz op)) [] [])])]⟩
def kG (op : Int) (ws : List Int) (xs : List Int) (k : Int) (w : Int) : St := ⟨[(4,ck),(7,cz),(9,(i6 (bg op ws k w))),(44,(.agg [(aU op),(.fn (.func (dy op)) [] []),(.fn (.func (dz op)) [] [])])),(46,(i6 (bg op ws k w)))],[(.var 213 [(LI ws),(LI xs),(i6 k),(i6 w)]),dG,(.var 216 [(aU op),(.fn (.func (dy op)) [] []),(.fn (.func (dz op)) [] [])])]⟩
def kH (op : Int) (ws : List Int) (xs : List Int) (k : Int) (w : Int) : St := ⟨[(4,ck),(7,cz),(9,(i6 (bg op ws k w))),(45,(i6 (bg op ws k w))),(46,(i6 (bg op ws k w)))],[(.var 213 [(LI ws),(LI xs),(i6 k),(i6 w)]),dG,(.var 216 [(aU op),(.fn (.func (dy op)) [] []),(.fn (.func (dz op)) [] [])])]⟩
def qy (op : Int) (ws : List Int) (xs : List Int) (k : Int) (w : Int) : St := ⟨[(4,ck),(7,cz),(9,(i6 (bg op ws k w))),(46,(i6 (bg op ws k w))),(47,(dB (av (bg op ws k w))))],[(.var 213 [(LI ws),(LI xs),(i6 k),(i6 w)]),dG,(.var 216 [(aU op),(.fn (.func (dy op)) [] []),(.fn (.func (dz op)) [] [])])]⟩
def ic (op : Int) (ws : List Int) (xs : List Int) (k : Int) (w : Int) : St := ⟨[(4,ck),(7,cz),(9,(i6 (bg op ws k w))),(44,(.agg [(aU op),(.fn (.func (dy op)) [] []),(.fn (.func (dz op)) [] [])])),(45,(i6 (bg op ws k w))),(46,(i6 (bg op ws k w)))],[(.var 213 [(LI ws),(LI xs),(i6 k),(i6 w)]),dG,(.var 216 [(aU op),(.fn (.func (dy op)) [] []),(.fn (.func (dz op)) [] [])])]⟩
def kI (op : Int) (ws : List Int) (xs : List Int) (k : Int) (w : Int) : St := ⟨[(4,ck),(7,cz),(9,(i6 (bg op ws k w))),(44,(.agg [(aU op),(.fn (.func (dy op)) [] []),(.fn (.func (dz op)) [] [])])),(46,(i6 (bg op ws k w))),(47,(dB (av (bg op ws k w))))],[(.var 213 [(LI ws),(LI xs),(i6 k),(i6 w)]),dG,(.var 216 [(aU op),(.fn (.func (dy op)) [] []),(.fn (.func (dz op)) [] [])])]⟩
def jz (op : Int) (ws : List Int) (xs : List Int) (k : Int) (w : Int) : St := ⟨[(4,ck),(7,cz),(9,(i6 (bg op ws k w))),(45,(i6 (bg op ws k w))),(46,(i6 (bg op ws k w))),(47,(dB (av (bg op ws k w))))],[(.var 213 [(LI ws),(LI xs),(i6 k),(i6 w)]),dG,(.var 216 [(aU op),(.fn (.func (dy op)) [] []),(.fn (.func (dz op)) [] [])])]⟩
def gn (op : Int) (ws : List Int) (xs : List Int) (k : Int) (w : Int) : St := ⟨[(4,ck),(7,cz),(9,(i6 (bg op ws k w))),(44,(.agg [(aU op),(.fn (.func (dy op)) [] []),(.fn (.func (dz op)) [] [])])),(45,(i6 (bg op ws k w))),(46,(i6 (bg op ws k w))),(47,(dB (av (bg op ws k w))))],[(.var 213 [(LI ws),(LI xs),(i6 k),(i6 w)]),dG,(.var 216 [(aU op),(.fn (.func (dy op)) [] []),(.fn (.func (dz op)) [] [])])]⟩
def oP (op : Int) (ws : List Int) (xs : List Int) (k : Int) (w : Int) : St := ⟨[(4,ck),(7,cz),(9,(i6 (bg op ws k w))),(44,(.agg [(aU op),(.fn (.func (dy op)) [] []),(.fn (.func (dz op)) [] [])])),(46,(i6 (bg op ws k w))),(47,(dB (av (bg op ws k w))))],[(.var 213 [(LI ws),(LI xs),(i6 k),(i6 w)]),(.var 216 [(aU op),(.fn (.func (dy op)) [] []),(.fn (.func (dz op)) [] [])]),(.var 216 [(aU op),(.fn (.func (dy op)) [] []),(.fn (.func (dz op)) [] [])])]⟩
def jA (op : Int) (ws : List Int) (xs : List Int) (k : Int) (w : Int) : St := ⟨[(4,ck),(7,cz),(9,(i6 (bg op ws k w))),(44,(.agg [(aU op),(.fn (.func (dy op)) [] []),(.fn (.func (dz op)) [] [])])),(45,(i6 (bg op ws k w))),(46,(i6 (bg op ws k w))),(47,(dB (av (bg op ws k w))))],[(.var 213 [(LI ws),(LI xs),(i6 k),(i6 w)]),(.var 216 [(aU op),(.fn (.func (dy op)) [] []),(.fn (.func (dz op)) [] [])]),(.var 216 [(aU op),(.fn (.func (dy op)) [] []),(.fn (.func (dz op)) [] [])])]⟩
def oQ (op : Int) (ws : List Int) (xs : List Int) (k : Int) (w : Int) : St := ⟨[(4,ck),(5,(i6 (bg op ws k w))),(7,cz),(9,(i6 (bg op ws k w))),(44,(.agg [(aU op),(.fn (.func (dy op)) [] []),(.fn (.func (dz op)) [] [])])),(45,(i6 (bg op ws k w))),(46,(i6 (bg op ws k w))),(47,(dB (av (bg op ws k w))))],[(.var 213 [(LI ws),(LI xs),(i6 k),(i6 w)]),(.var 216 [(aU op),(.fn (.func (dy op)) [] []),(.fn (.func (dz op)) [] [])]),(.var 216 [(aU op),(.fn (.func (dy op)) [] []),(.fn (.func (dz op)) [] [])])]⟩
def oS (op : Int) (ws : List Int) (xs : List Int) (k : Int) (w : Int) : St := ⟨[(4,ck),(5,(i6 (bg op ws k w))),(6,(dB (av (bg op ws k w))))],[(.var 213 [(LI ws),(LI xs),(i6 k),(i6 w)]),(.var 216 [(aU op),(.fn (.func (dy op)) [] []),(.fn (.func (dz op)) [] [])]),(.var 216 [(aU op),(.fn (.func (dy op)) [] []),(.fn (.func (dz op)) [] [])])]⟩
theorem wt (op : Int) (ws xs : List Int) (k w : Int) (hw : ws.length ≤ 9223372036854775807) (h : zb op ws = true) : CC (DR op ws xs k w) := by
 obtain ⟨h1,h2⟩ := xA h
 have hop := uL h
 refine ah.vc (V := TT 4 (CS (op = 2 ∨ op = 3 ∨ op = 4 ∨ op = 5 ∨ op = 6 ∨ op = 7 ∨ op = 8 ∨ op = 9) (CC xD∧TT 1 ((∃ (j : Nat) (e : Int × Value),eK[j]? = some e∧op = e.1∧(∀ e' ∈ eK.take j,op ≠ e'.1)∧p5 (D.ofVal e.2) (.agg [(aU op),(.fn (.func (dy op)) [] []),(.fn (.func (dz op)) [] [])]))∧TT 18 ((True∧(!decide ((ws.length : Int) = (bC op))) = false)∧TT 2 (CC (H3 ws)∧TT 1 ((!(ws.all av)) = false∧TT 3 (GC (cW op ws xs k w)∧TT 1 ((mc op ws xs k w) = (mc op ws xs k w)∧(((sE (sB op ws xs k w) (True))∧(sE (sC op ws xs k w) (True))∧(sE (sD op ws xs k w) (True))∧True)∧((sE (md op ws xs k w) (True))∧(sE (mf op ws xs k w) (True))∧True)∧((sE (md op ws xs k w) (True))∧(sE (mh op ws xs k w) (True))∧True)∧((sE (mf op ws xs k w) (True))∧(sE (mh op ws xs k w) (True))∧(sE (sF op ws xs k w) (CC (gO (bg op ws k w))))∧True)∧((sE (jk op ws xs k w) (True))∧True)∧((sE (jk op ws xs k w) (True))∧(sE (mi op ws xs k w) (CC (gO (bg op ws k w))))∧True)∧((sE (jk op ws xs k w) (True))∧(sE (kC op ws xs k w) (CC (gO (bg op ws k w))))∧True)∧((sE (mi op ws xs k w) (True))∧(sE (kC op ws xs k w) (True))∧True)∧((sE (ib op ws xs k w) (CC (gO (bg op ws k w))))∧True)∧((sE (ib op ws xs k w) (True))∧(sE (qs op ws xs k w) (True))∧True)∧((sE (ib op ws xs k w) (True))∧True)∧((sE (kD op ws xs k w) (True))∧True)∧((sE (kD op ws xs k w) (True))∧True)∧((sE (qt op ws xs k w) (True))∧True)∧((sE (qu op ws xs k w) (True))∧True)∧True∧True)∧TT 3 (((bC op) = (bC op)∧((.fn (.func (dy op)) [] []) : D) = (.fn (.func (dy op)) [] [])∧((.fn (.func (dz op)) [] []) : D) = (.fn (.func (dz op)) [] [])∧True)∧(bg op ws k w) = (bg op ws k w)∧(av (bg op ws k w)) = (av (bg op ws k w))∧True)))))))) (CC xD∧TT 1 ((∀ e' ∈ eK,op ≠ e'.1)∧TT 8 (CC AJ∧TT 1 ((∃ (j : Nat) (e : Int × Value),fo[j]? = some e∧op = e.1∧(∀ e' ∈ fo.take j,op ≠ e'.1)∧p5 (D.ofVal e.2) (.agg [(aU op),(.fn (.func (dy op)) [] []),(.fn (.func (dz op)) [] [])]))∧TT 15 ((True∧(!decide ((ws.length : Int) = (bC op))) = false)∧TT 2 (CC (H3 ws)∧TT 1 ((!(ws.all av)) = false∧TT 3 (GC (cW op ws xs k w)∧TT 1 ((kE op ws xs k w) = (kE op ws xs k w)∧(((sE (qv op ws xs k w) (True))∧(sE (qw op ws xs k w) (True))∧(sE (qx op ws xs k w) (True))∧True)∧((sE (kF op ws xs k w) (True))∧(sE (kG op ws xs k w) (True))∧True)∧((sE (kF op ws xs k w) (True))∧(sE (kH op ws xs k w) (True))∧True)∧((sE (kG op ws xs k w) (True))∧(sE (kH op ws xs k w) (True))∧(sE (qy op ws xs k w) (CC (gO (bg op ws k w))))∧True)∧((sE (ic op ws xs k w) (True))∧True)∧((sE (ic op ws xs k w) (True))∧(sE (kI op ws xs k w) (CC (gO (bg op ws k w))))∧True)∧((sE (ic op ws xs k w) (True))∧(sE (jz op ws xs k w) (CC (gO (bg op ws k w))))∧True)∧((sE (kI op ws xs k w) (True))∧(sE (jz op ws xs k w) (True))∧True)∧((sE (gn op ws xs k w) (CC (gO (bg op ws k w))))∧True)∧((sE (gn op ws xs k w) (True))∧(sE (oP op ws xs k w) (True))∧True)∧((sE (gn op ws xs k w) (True))∧True)∧((sE (jA op ws xs k w) (True))∧True)∧((sE (jA op ws xs k w) (True))∧True)∧((sE (oQ op ws xs k w) (True))∧True)∧((sE (oS op ws xs k w) (True))∧True)∧True∧True)∧TT 3 (((bC op) = (bC op)∧((.fn (.func (dy op)) [] []) : D) = (.fn (.func (dy op)) [] [])∧((.fn (.func (dz op)) [] []) : D) = (.fn (.func (dz op)) [] [])∧True)∧(bg op ws k w) = (bg op ws k w)∧(av (bg op ws k w)) = (av (bg op ws k w))∧True)))))))))))) (.s 1 (op = 2 ∨ op = 3 ∨ op = 4 ∨ op = 5 ∨ op = 6 ∨ op = 7 ∨ op = 8 ∨ op = 9) (.w 1 [(0,xD.O),(2,.ent (.agg [(aU op),(.fn (.func (dy op)) [] []),(.fn (.func (dz op)) [] [])]))] <| .w 4 [(10,.val (dB false)),(13,(H3 ws).O)] <| .u 38 (.w 6 [(3,.callg none false (i6 (bg op ws k w)))] <| .y 7 [(3,(gO (bg op ws k w)).O)] [((bm 7 0),(mc op ws xs k w)),((bm 7 1),(sB op ws xs k w)),((bm 7 2),(sC op ws xs k w)),((bm 7 4),(sD op ws xs k w)),((bm 7 3),(md op ws xs k w)),((bm 7 5),(mf op ws xs k w)),((bm 7 6),(mh op ws xs k w)),((bm 7 12),(sF op ws xs k w)),((bm 7 7),(jk op ws xs k w)),((bm 7 13),(mi op ws xs k w)),((bm 7 14),(kC op ws xs k w)),((bm 7 15),(ib op ws xs k w)),((bm 7 29),(qs op ws xs k w)),((bm 7 31),(kD op ws xs k w)),((bm 7 63),(qt op ws xs k w)),((bm 7 127),(qu op ws xs k w))] <| .e)) (.w 1 [(0,xD.O),(2,.idx none)] <| .w 3 [(0,AJ.O),(2,.ent (.agg [(aU op),(.fn (.func (dy op)) [] []),(.fn (.func (dz op)) [] [])]))] <| .w 4 [(10,.val (dB false)),(13,(H3 ws).O)] <| .u 38 (.w 6 [(3,.callg none false (i6 (bg op ws k w)))] <| .y 7 [(3,(gO (bg op ws k w)).O)] [((bm 7 0),(kE op ws xs k w)),((bm 7 1),(qv op ws xs k w)),((bm 7 2),(qw op ws xs k w)),((bm 7 4),(qx op ws xs k w)),((bm 7 3),(kF op ws xs k w)),((bm 7 5),(kG op ws xs k w)),((bm 7 6),(kH op ws xs k w)),((bm 7 12),(qy op ws xs k w)),((bm 7 7),(ic op ws xs k w)),((bm 7 13),(kI op ws xs k w)),((bm 7 14),(jz op ws xs k w)),((bm 7 15),(gn op ws xs k w)),((bm 7 29),(oP op ws xs k w)),((bm 7 31),(jA op ws xs k w)),((bm 7 63),(oQ op ws xs k w)),((bm 7 127),(oS op ws xs k w))] <| .e))) Tryz.func117 rfl rfl rfl (by kernel_rfl) ?_
 refine tt ⟨fun hs0 => ?_,fun hs0 => ?_⟩
 · have hS := hs0
   exact ⟨nh,tt ⟨(uM hS),tt ⟨(nF h1),tt ⟨(ji ws hw),tt ⟨(MR h2),tt ⟨(Jf op ws xs k w h),tt ⟨rfl,⟨⟨⟨⟨rfl,oK,oK⟩,⟨rfl,oK,oK⟩,⟨rfl,oK,oK⟩,oK⟩,⟨⟨rfl,oK,oK⟩,⟨rfl,oK,oK⟩,oK⟩,⟨⟨rfl,oK,oK⟩,⟨rfl,oK,oK⟩,oK⟩,⟨⟨rfl,oK,oK⟩,⟨rfl,oK,oK⟩,⟨rfl,(dh (bg op ws k w)),oK⟩,oK⟩,⟨⟨rfl,oK,oK⟩,oK⟩,⟨⟨rfl,oK,oK⟩,⟨rfl,(dh (bg op ws k w)),oK⟩,oK⟩,⟨⟨rfl,oK,oK⟩,⟨rfl,(dh (bg op ws k w)),oK⟩,oK⟩,⟨⟨rfl,oK,oK⟩,⟨rfl,oK,oK⟩,oK⟩,⟨⟨rfl,(dh (bg op ws k w)),oK⟩,oK⟩,⟨⟨rfl,oK,oK⟩,⟨rfl,oK,oK⟩,oK⟩,⟨⟨rfl,oK,oK⟩,oK⟩,⟨⟨rfl,oK,oK⟩,oK⟩,⟨⟨rfl,oK,oK⟩,oK⟩,⟨⟨rfl,oK,oK⟩,oK⟩,⟨⟨rfl,oK,oK⟩,oK⟩,oK,oK⟩,tt ⟨⟨rfl,rfl,rfl,oK⟩,rfl,rfl,oK⟩⟩⟩⟩⟩⟩⟩⟩⟩
 · have hS := hs0
   exact ⟨nh,tt ⟨(uN hS),tt ⟨rO,tt ⟨(uO (by omega)),tt ⟨(nF h1),tt ⟨(ji ws hw),tt ⟨(MR h2),tt ⟨(Jf op ws xs k w h),tt ⟨rfl,⟨⟨⟨⟨rfl,oK,oK⟩,⟨rfl,oK,oK⟩,⟨rfl,oK,oK⟩,oK⟩,⟨⟨rfl,oK,oK⟩,⟨rfl,oK,oK⟩,oK⟩,⟨⟨rfl,oK,oK⟩,⟨rfl,oK,oK⟩,oK⟩,⟨⟨rfl,oK,oK⟩,⟨rfl,oK,oK⟩,⟨rfl,(dh (bg op ws k w)),oK⟩,oK⟩,⟨⟨rfl,oK,oK⟩,oK⟩,⟨⟨rfl,oK,oK⟩,⟨rfl,(dh (bg op ws k w)),oK⟩,oK⟩,⟨⟨rfl,oK,oK⟩,⟨rfl,(dh (bg op ws k w)),oK⟩,oK⟩,⟨⟨rfl,oK,oK⟩,⟨rfl,oK,oK⟩,oK⟩,⟨⟨rfl,(dh (bg op ws k w)),oK⟩,oK⟩,⟨⟨rfl,oK,oK⟩,⟨rfl,oK,oK⟩,oK⟩,⟨⟨rfl,oK,oK⟩,oK⟩,⟨⟨rfl,oK,oK⟩,oK⟩,⟨⟨rfl,oK,oK⟩,oK⟩,⟨⟨rfl,oK,oK⟩,oK⟩,⟨⟨rfl,oK,oK⟩,oK⟩,oK,oK⟩,tt ⟨⟨rfl,rfl,rfl,oK⟩,rfl,rfl,oK⟩⟩⟩⟩⟩⟩⟩⟩⟩⟩⟩
abbrev DS (op : Int) (ws xs : List Int) (k w : Int) : Ct := ⟨117,[(i6 op),(.agg [(LI ws),(LI xs),(i6 k),(i6 w)])],true,(.tup [(.agg [(i6 0),(.v .nilf),(.v .nilf)]),(i6 0),(dB false)])⟩
theorem wu (op : Int) (ws xs : List Int) (k w : Int) (hw : ws.length ≤ 9223372036854775807) (h : zb op ws = false) : CC (DS op ws xs k w) := by
 refine ah.vc (V := TT 4 (CS (op = 2 ∨ op = 3 ∨ op = 4 ∨ op = 5 ∨ op = 6 ∨ op = 7 ∨ op = 8 ∨ op = 9) (CC xD∧TT 1 ((∃ (j : Nat) (e : Int × Value),eK[j]? = some e∧op = e.1∧(∀ e' ∈ eK.take j,op ≠ e'.1)∧p5 (D.ofVal e.2) (.agg [(aU op),(.fn (.func (dy op)) [] []),(.fn (.func (dz op)) [] [])]))∧TT 8 (CS ((ws.length : Int) = (bC op)) (TT 10 ((True∧(!decide ((ws.length : Int) = (bC op))) = false)∧TT 2 (CC (H3 ws)∧TT 1 ((!(ws.all av)) = true∧TT 7 (((0 : Int) = 0∧True∧True∧True)∧(0 : Int) = 0∧false = false∧True))))) (TT 10 ((True∧(!decide ((ws.length : Int) = (bC op))) = true)∧TT 11 (((0 : Int) = 0∧True∧True∧True)∧(0 : Int) = 0∧false = false∧True)))))) (CC xD∧TT 1 ((∀ e' ∈ eK,op ≠ e'.1)∧TT 8 (CS (op = 1 ∨ op = 10 ∨ op = 11 ∨ op = 12 ∨ op = 13) (CC AJ∧TT 1 ((∃ (j : Nat) (e : Int × Value),fo[j]? = some e∧op = e.1∧(∀ e' ∈ fo.take j,op ≠ e'.1)∧p5 (D.ofVal e.2) (.agg [(aU op),(.fn (.func (dy op)) [] []),(.fn (.func (dz op)) [] [])]))∧TT 5 (CS ((ws.length : Int) = (bC op)) (TT 10 ((True∧(!decide ((ws.length : Int) = (bC op))) = false)∧TT 2 (CC (H3 ws)∧TT 1 ((!(ws.all av)) = true∧TT 7 (((0 : Int) = 0∧True∧True∧True)∧(0 : Int) = 0∧false = false∧True))))) (TT 10 ((True∧(!decide ((ws.length : Int) = (bC op))) = true)∧TT 11 (((0 : Int) = 0∧True∧True∧True)∧(0 : Int) = 0∧false = false∧True)))))) (CC AJ∧TT 1 ((∀ e' ∈ fo,op ≠ e'.1)∧TT 27 (((0 : Int) = 0∧True∧True∧True)∧(0 : Int) = 0∧false = false∧True)))))))) (.s 1 (op = 2 ∨ op = 3 ∨ op = 4 ∨ op = 5 ∨ op = 6 ∨ op = 7 ∨ op = 8 ∨ op = 9) (.w 1 [(0,xD.O),(2,.ent (.agg [(aU op),(.fn (.func (dy op)) [] []),(.fn (.func (dz op)) [] [])]))] <| .s 4 ((ws.length : Int) = (bC op)) (.w 4 [(10,.val (dB false)),(13,(H3 ws).O)] <| .t 38 (.e)) (.w 4 [(10,.val (dB true))] <| .e)) (.w 1 [(0,xD.O),(2,.idx none)] <| .s 3 (op = 1 ∨ op = 10 ∨ op = 11 ∨ op = 12 ∨ op = 13) (.w 3 [(0,AJ.O),(2,.ent (.agg [(aU op),(.fn (.func (dy op)) [] []),(.fn (.func (dz op)) [] [])]))] <| .s 4 ((ws.length : Int) = (bC op)) (.w 4 [(10,.val (dB false)),(13,(H3 ws).O)] <| .t 38 (.e)) (.w 4 [(10,.val (dB true))] <| .e)) (.w 3 [(0,AJ.O),(2,.idx none)] <| .e))) Tryz.func117 rfl rfl rfl (by kernel_rfl) ?_
 refine tt ⟨fun hs0 => ?_,fun hs0 => ?_⟩
 · have hS := hs0
   refine ⟨nh,tt ⟨(uM hS),tt ⟨fun hs1 => ?_,fun hs1 => ?_⟩⟩⟩
   · exact tt ⟨(nF hs1),tt ⟨(ji ws hw),tt ⟨(M3 (by rcases Fu h with h5 | ⟨_,h5⟩; exact absurd (by assumption) h5; rw [h5]; simp)),tt ⟨⟨rfl,oK,oK,oK⟩,rfl,rfl,oK⟩⟩⟩⟩
   · exact tt ⟨(nT hs1),tt ⟨⟨rfl,oK,oK,oK⟩,rfl,rfl,oK⟩⟩
 · have hS := hs0
   refine ⟨nh,tt ⟨(uN hS),tt ⟨fun hs2 => ?_,fun hs2 => ?_⟩⟩⟩
   · have hO := hs2
     refine ⟨rO,tt ⟨(uO hO),tt ⟨fun hs3 => ?_,fun hs3 => ?_⟩⟩⟩
     · exact tt ⟨(nF hs3),tt ⟨(ji ws hw),tt ⟨(M3 (by rcases Fu h with h5 | ⟨_,h5⟩; exact absurd (by assumption) h5; rw [h5]; simp)),tt ⟨⟨rfl,oK,oK,oK⟩,rfl,rfl,oK⟩⟩⟩⟩
     · exact tt ⟨(nT hs3),tt ⟨⟨rfl,oK,oK,oK⟩,rfl,rfl,oK⟩⟩
   · have hO := hs2
     exact ⟨rO,tt ⟨(AK hO),tt ⟨⟨rfl,oK,oK,oK⟩,rfl,rfl,oK⟩⟩⟩
theorem pD {op : Int} {ws : List Int} {k w : Int} (h : zb op ws = true) (h2 : av (bg op ws k w) = true) : oi op ws k w = true := by rw [AH,h,h2]; rfl
theorem cb {op : Int} {ws : List Int} {k w : Int} (h : ¬zb op ws = true) : oi op ws k w = false := by rw [AH,Bool.eq_false_iff.2 h]; rfl
theorem cf {op : Int} {ws : List Int} {k w : Int} (h2 : ¬av (bg op ws k w) = true) : oi op ws k w = false := by rw [AH,Bool.eq_false_iff.2 h2,Bool.and_false]
theorem lr {op : Int} {ws : List Int} {k w : Int} (h : oi op ws k w = false) : 0 = ga op ws k w∧1 = mb op ws k w := by unfold ga mb; rw [h]; exact ⟨rfl,rfl⟩
theorem rP {op : Int} {ws : List Int} {k w : Int} (h : oi op ws k w = true) : bg op ws k w = ga op ws k w∧0 = mb op ws k w := by unfold ga mb; rw [h]; exact ⟨rfl,rfl⟩
abbrev Ka (op : Int) (ws : List Int) (k w : Int) : Ct := ⟨105,[(i6 op),(LI ws),(.agg [(i6 k),(i6 w)])],false,(.tup [(i6 (ga op ws k w)),(i6 (mb op ws k w))])⟩
theorem FE (op : Int) (ws : List Int) (k w : Int) (hw : ws.length ≤ 9223372036854775807) : CC (Ka op ws k w) := by
 refine ah.vc (V := TT 3 (CS (zb op ws = true) (TT 2 (((0 ≤ (0 : Int)∧0 < (2 : Int))∧True)∧TT 1 (((0 ≤ (1 : Int)∧1 < (2 : Int))∧True)∧TT 2 ((vP [] [(i6 op),(.agg [(LI ws),.nils,(i6 k),(i6 w)])] (DR op ws [] k w).as∧CC (DR op ws [] k w))∧TT 10 (CB (!(av (bg op ws k w))) (TT 4 (((0 : Int) = (ga op ws k w)∧(1 : Int) = (mb op ws k w)∧True)∧(True∧True∧True))) (TT 5 (((bg op ws k w) = (ga op ws k w)∧(0 : Int) = (mb op ws k w)∧True)∧(True∧True∧True)))))))) (TT 2 (((0 ≤ (0 : Int)∧0 < (2 : Int))∧True)∧TT 1 (((0 ≤ (1 : Int)∧1 < (2 : Int))∧True)∧TT 2 ((vP [] [(i6 op),(.agg [(LI ws),.nils,(i6 k),(i6 w)])] (DS op ws [] k w).as∧CC (DS op ws [] k w))∧TT 14 (((0 : Int) = (ga op ws k w)∧(1 : Int) = (mb op ws k w)∧True)∧(True∧True∧True)))))))) (.s 1 (zb op ws = true) (.w 1 [(7,(DR op ws [] k w).O')] <| .b 24 (.e) (.e)) (.w 1 [(7,(DS op ws [] k w).O')] <| .e)) Tryz.func105 rfl rfl rfl (by kernel_rfl) ?_
 refine tt ⟨fun hs0 => ?_,fun hs0 => ?_⟩
 · have hb := hs0
   refine tt ⟨⟨by omega,oK⟩,tt ⟨⟨by omega,oK⟩,tt ⟨⟨⟨rfl,⟨rfl,rfl,rfl,rfl,oK⟩,oK⟩,(wt op ws [] k w hw hb)⟩,tt ⟨fun hc24 => ?_,fun hc24 => ?_⟩⟩⟩⟩
   · refine tt ⟨⟨?_,?_,oK⟩,⟨oK,oK,oK⟩⟩
     all_goals (first | exact (lr (cb hb)).1 | exact (lr (cb hb)).2 | exact (lr (cf (by simpa using hc24))).1 | exact (lr (cf (by simpa using hc24))).2 | exact (rP (pD hb (by simpa using hc24))).1 | exact (rP (pD hb (by simpa using hc24))).2)
   · refine tt ⟨⟨?_,?_,oK⟩,⟨oK,oK,oK⟩⟩
     all_goals (first | exact (lr (cb hb)).1 | exact (lr (cb hb)).2 | exact (lr (cf (by simpa using hc24))).1 | exact (lr (cf (by simpa using hc24))).2 | exact (rP (pD hb (by simpa using hc24))).1 | exact (rP (pD hb (by simpa using hc24))).2)
 · have hb := hs0
   refine tt ⟨⟨by omega,oK⟩,tt ⟨⟨by omega,oK⟩,tt ⟨⟨⟨rfl,⟨rfl,rfl,rfl,rfl,oK⟩,oK⟩,(wu op ws [] k w hw (Bool.eq_false_iff.2 hb))⟩,tt ⟨⟨?_,?_,oK⟩,⟨oK,oK,oK⟩⟩⟩⟩⟩
   all_goals (first | exact (lr (cb hb)).1 | exact (lr (cb hb)).2 | exact (lr (cf (by simpa using hc24))).1 | exact (lr (cf (by simpa using hc24))).2 | exact (rP (pD hb (by simpa using hc24))).1 | exact (rP (pD hb (by simpa using hc24))).2)
abbrev Kb (op : Int) (ws xs nums : List Int) : Ct := ⟨104,[(i6 op),(LI ws),(LI xs),(LI nums)],false,(.tup [(i6 (du op ws xs nums)),(i6 (gN op ws xs nums))])⟩
abbrev qz (op : Int) (ws : List Int) (xs : List Int) (nums : List Int) : Lp (Nat) := pC [1,10,11,44,45,46] 11 (fun (i : Nat) => ⟨[(1,(LI ws)),(10,(.ptr 9 0 0 0)),(11,(.ptr 10 0 0 0)),(44,(LI xs)),(45,(i6 (xs.length : Int))),(46,(i6 (i : Int)))],[.dead,.dead,.dead,.dead,.dead,.dead,.dead,.dead,.dead,(.var 213 [(LI ws),(LI xs),(i6 (nums.getD 0 0)),(i6 (nums.getD 1 0))]),(.var 216 [(aU op),(.fn (.func (dy op)) [] []),(.fn (.func (dz op)) [] [])])]⟩) (fun (i : Nat) => i ≤ xs.length∧∀ j,j < i → 0 ≤ xs.getD j 0∧xs.getD j 0 ≤ am (ws.getD j 0)) (fun (i : Nat) => xs.length - i)
theorem FF (op : Int) (ws xs nums : List Int) (hwl : ws.length ≤ 9223372036854775807) (hxl0 : xs.length ≤ 9223372036854775807) : CC (Kb op ws xs nums) := by
 refine ah.vc (V := TT 2 (CS ((nums.length : Int) = 2) (TT 3 ((True∧(!decide ((nums.length : Int) = 2)) = false)∧TT 6 (CN ((xs.length : Int) = (ws.length : Int)) (TT 4 (((0 : Int) = (du op ws xs nums)∧(1 : Int) = (gN op ws xs nums)∧True)∧(True∧True∧True))) (TT 3 (IX 0 nums.length∧TT 2 (IX 1 nums.length∧TT 4 (CS (zb op ws = true) (TT 2 (CC (DR op ws xs (nums.getD 0 0) (nums.getD 1 0))∧TT 10 (CB (!(av (bg op ws (nums.getD 0 0) (nums.getD 1 0)))) (TT 4 (((0 : Int) = (du op ws xs nums)∧(1 : Int) = (gN op ws xs nums)∧True)∧(True∧True∧True))) (TT 3 (GO (qz op ws xs nums) 0 (∀ i,(qz op ws xs nums).inv i → TT 1 (CD ((i : Int) < (xs.length : Int)) (TT 1 (IX (i : Int) xs.length∧TT 3 (CS ((xs.getD i 0) < 0) (TT 2 ((True∧(decide ((xs.getD i 0) < 0)) = true)∧TT 12 (((0 : Int) = (du op ws xs nums)∧(1 : Int) = (gN op ws xs nums)∧True)∧(True∧True∧True)))) (TT 2 ((True∧(decide ((xs.getD i 0) < 0)) = false)∧TT 3 (IX (i : Int) ws.length∧TT 1 (CC (xB (ws.getD i 0))∧TT 2 (CD ((xs.getD i 0) > (am (ws.getD i 0))) (TT 4 (((0 : Int) = (du op ws xs nums)∧(1 : Int) = (gN op ws xs nums)∧True)∧(True∧True∧True))) (W6 ((i + 1 : Nat) : Int)∧TT 1 (AG (qz op ws xs nums) i (i + 1))))))))))) (TT 3 (GC (cV op ws xs (nums.getD 0 0) (nums.getD 1 0))∧TT 4 (((ol op ws xs (nums.getD 0 0) (nums.getD 1 0)) = (du op ws xs nums)∧(0 : Int) = (gN op ws xs nums)∧True)∧(True∧True∧True))))))))))) (TT 2 (CC (DS op ws xs (nums.getD 0 0) (nums.getD 1 0))∧TT 14 (((0 : Int) = (du op ws xs nums)∧(1 : Int) = (gN op ws xs nums)∧True)∧(True∧True∧True))))))))))) (TT 3 ((True∧(!decide ((nums.length : Int) = 2)) = true)∧TT 10 (((0 : Int) = (du op ws xs nums)∧(1 : Int) = (gN op ws xs nums)∧True)∧(True∧True∧True)))))) (.s 1 ((nums.length : Int) = 2) (.w 1 [(3,.val (dB false))] <| .b 25 (.e) (.s 4 (zb op ws = true) (.w 4 [(2,(DR op ws xs (nums.getD 0 0) (nums.getD 1 0)).O)] <| .b 43 (.e) (.l (qz op ws xs nums) 0 (fun i => .b 47 (.s 10 ((xs.getD i 0) < 0) (.w 10 [(2,.val (dB true))] <| .e) (.w 10 [(2,.val (dB false)),(8,(xB (ws.getD i 0)).O)] <| .b 61 (.e) (.w 12 [(0,.val (i6 ((i + 1 : Nat) : Int)))] <| .e))) (.w 13 [(3,.callg none false (i6 (ol op ws xs (nums.getD 0 0) (nums.getD 1 0))))] <| .e)))) (.w 4 [(2,(DS op ws xs (nums.getD 0 0) (nums.getD 1 0)).O)] <| .e))) (.w 1 [(3,.val (dB true))] <| .e)) Tryz.func104 rfl rfl rfl (by kernel_rfl) ?_
 refine tt ⟨fun hs0 => ?_,fun hs0 => ?_⟩
 · refine tt ⟨(nF hs0),tt (cn (fun hc25 => ?_) (fun hc25 => ?_))⟩
   · refine tt ⟨⟨?_,?_,oK⟩,⟨oK,oK,oK⟩⟩
     all_goals (first | exact (aR (qp (by omega))).1.symm | exact (aR (qp (by omega))).2.symm | exact (aR (qq (by omega))).1.symm | exact (aR (qq (by omega))).2.symm | exact (aR (bV (cb hb))).1.symm | exact (aR (bV (cb hb))).2.symm | exact (aR (bV (cf (by simpa using hc43)))).1.symm | exact (aR (bV (cf (by simpa using hc43)))).2.symm | exact (aR (jh (i := i) (by omega) (by omega))).1.symm | exact (aR (jh (i := i) (by omega) (by omega))).2.symm | exact (eN hl2 hxl hok hin).1.symm | exact (eN hl2 hxl hok hin).2.symm)
   · refine tt ⟨ix,tt ⟨ix,tt ⟨fun hs1 => ?_,fun hs1 => ?_⟩⟩⟩
     · have hb := hs1
       refine tt ⟨(wt op ws xs (nums.getD 0 0) (nums.getD 1 0) hwl hb),tt ⟨fun hc43 => ?_,fun hc43 => ?_⟩⟩
       · refine tt ⟨⟨?_,?_,oK⟩,⟨oK,oK,oK⟩⟩
         all_goals (first | exact (aR (qp (by omega))).1.symm | exact (aR (qp (by omega))).2.symm | exact (aR (qq (by omega))).1.symm | exact (aR (qq (by omega))).2.symm | exact (aR (bV (cb hb))).1.symm | exact (aR (bV (cb hb))).2.symm | exact (aR (bV (cf (by simpa using hc43)))).1.symm | exact (aR (bV (cf (by simpa using hc43)))).2.symm | exact (aR (jh (i := i) (by omega) (by omega))).1.symm | exact (aR (jh (i := i) (by omega) (by omega))).2.symm | exact (eN hl2 hxl hok hin).1.symm | exact (eN hl2 hxl hok hin).2.symm)
       · refine tt ?_
         have hok := pD hb (by simpa using hc43)
         have hl2 : nums.length = 2 := by omega
         have hxl : xs.length = ws.length := by omega
         refine ⟨rfl,⟨by omega,fun j hj => by omega⟩,?_⟩
         intro i hinv
         obtain ⟨hi,hall⟩ := hinv
         refine tt (cd (fun hc47 => ?_) (fun hc47 => ?_))
         · refine tt ⟨ix,tt ⟨fun hs2 => ?_,fun hs2 => ?_⟩⟩
           · refine tt ⟨(vT hs2),tt ⟨⟨?_,?_,oK⟩,⟨oK,oK,oK⟩⟩⟩
             all_goals (first | exact (aR (qp (by omega))).1.symm | exact (aR (qp (by omega))).2.symm | exact (aR (qq (by omega))).1.symm | exact (aR (qq (by omega))).2.symm | exact (aR (bV (cb hb))).1.symm | exact (aR (bV (cb hb))).2.symm | exact (aR (bV (cf (by simpa using hc43)))).1.symm | exact (aR (bV (cf (by simpa using hc43)))).2.symm | exact (aR (jh (i := i) (by omega) (by omega))).1.symm | exact (aR (jh (i := i) (by omega) (by omega))).2.symm | exact (eN hl2 hxl hok hin).1.symm | exact (eN hl2 hxl hok hin).2.symm)
           · refine tt ⟨(vF hs2),tt ⟨ix,tt ⟨(tu (ws.getD i 0)),tt (cd (fun hc61 => ?_) (fun hc61 => ?_))⟩⟩⟩
             · refine tt ⟨⟨?_,?_,oK⟩,⟨oK,oK,oK⟩⟩
               all_goals (first | exact (aR (qp (by omega))).1.symm | exact (aR (qp (by omega))).2.symm | exact (aR (qq (by omega))).1.symm | exact (aR (qq (by omega))).2.symm | exact (aR (bV (cb hb))).1.symm | exact (aR (bV (cb hb))).2.symm | exact (aR (bV (cf (by simpa using hc43)))).1.symm | exact (aR (bV (cf (by simpa using hc43)))).2.symm | exact (aR (jh (i := i) (by omega) (by omega))).1.symm | exact (aR (jh (i := i) (by omega) (by omega))).2.symm | exact (eN hl2 hxl hok hin).1.symm | exact (eN hl2 hxl hok hin).2.symm)
             · refine ⟨w6,tt ⟨(i + 1),rfl,?_,(?_ : xs.length - (i + 1) < xs.length - i)⟩⟩
               · exact ⟨by omega,eJ hall ⟨by omega,by omega⟩⟩
               · omega
         · have hin : DL ws xs = true := Ft (fun j hj => hall j (by omega))
           refine tt ⟨(L2 op ws xs _ _ hok hxl hin),tt ⟨⟨?_,?_,oK⟩,⟨oK,oK,oK⟩⟩⟩
           all_goals (first | exact (aR (qp (by omega))).1.symm | exact (aR (qp (by omega))).2.symm | exact (aR (qq (by omega))).1.symm | exact (aR (qq (by omega))).2.symm | exact (aR (bV (cb hb))).1.symm | exact (aR (bV (cb hb))).2.symm | exact (aR (bV (cf (by simpa using hc43)))).1.symm | exact (aR (bV (cf (by simpa using hc43)))).2.symm | exact (aR (jh (i := i) (by omega) (by omega))).1.symm | exact (aR (jh (i := i) (by omega) (by omega))).2.symm | exact (eN hl2 hxl hok hin).1.symm | exact (eN hl2 hxl hok hin).2.symm)
     · have hb := hs1
       refine tt ⟨(wu op ws xs (nums.getD 0 0) (nums.getD 1 0) hwl (Bool.eq_false_iff.2 hb)),tt ⟨⟨?_,?_,oK⟩,⟨oK,oK,oK⟩⟩⟩
       all_goals (first | exact (aR (qp (by omega))).1.symm | exact (aR (qp (by omega))).2.symm | exact (aR (qq (by omega))).1.symm | exact (aR (qq (by omega))).2.symm | exact (aR (bV (cb hb))).1.symm | exact (aR (bV (cb hb))).2.symm | exact (aR (bV (cf (by simpa using hc43)))).1.symm | exact (aR (bV (cf (by simpa using hc43)))).2.symm | exact (aR (jh (i := i) (by omega) (by omega))).1.symm | exact (aR (jh (i := i) (by omega) (by omega))).2.symm | exact (eN hl2 hxl hok hin).1.symm | exact (eN hl2 hxl hok hin).2.symm)
 · refine tt ⟨(nT hs0),tt ⟨⟨?_,?_,oK⟩,⟨oK,oK,oK⟩⟩⟩
   all_goals (first | exact (aR (qp (by omega))).1.symm | exact (aR (qp (by omega))).2.symm | exact (aR (qq (by omega))).1.symm | exact (aR (qq (by omega))).2.symm | exact (aR (bV (cb hb))).1.symm | exact (aR (bV (cb hb))).2.symm | exact (aR (bV (cf (by simpa using hc43)))).1.symm | exact (aR (bV (cf (by simpa using hc43)))).2.symm | exact (aR (jh (i := i) (by omega) (by omega))).1.symm | exact (aR (jh (i := i) (by omega) (by omega))).2.symm | exact (eN hl2 hxl hok hin).1.symm | exact (eN hl2 hxl hok hin).2.symm)
end Go.Proofs.YtckgpflobhpnpaaGreat
