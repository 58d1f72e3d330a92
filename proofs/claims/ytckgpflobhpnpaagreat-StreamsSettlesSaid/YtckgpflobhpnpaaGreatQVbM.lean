/-
  Package bits: the tables of operators; Width, Apply.
-/
import Derived.Test.YtckgpflobhpnpaaGreatQVbB
namespace Go.Proofs.YtckgpflobhpnpaaGreat
open Go.RowKit
set_option linter.unusedVariables false
set_option linter.unusedSimpArgs false
abbrev ef:am:=(.var 216 [(i6 0),(.v .nilf),(.v .nilf)])
abbrev aX (op:Int):D:=(i6 (bQ op))
abbrev cJ:D:=(.ptr 1 0 0 0)
abbrev cU:D:=(.ptr 2 0 0 0)
set_option maxRecDepth 100000
def eX:List (Int×Value):=[(2,.agg #[.int .i64 1,.func (.func 127) #[] #[],.func (.func 128) #[] #[]]),(3,.agg #[.int .i64 2,.func (.func 130) #[] #[],.func (.func 131) #[] #[]]),(4,.agg #[.int .i64 2,.func (.func 130) #[] #[],.func (.func 132) #[] #[]]),(5,.agg #[.int .i64 2,.func (.func 130) #[] #[],.func (.func 133) #[] #[]]),(6,.agg #[.int .i64 2,.func (.func 130) #[] #[],.func (.func 134) #[] #[]]),(7,.agg #[.int .i64 2,.func (.func 130) #[] #[],.func (.func 135) #[] #[]]),(8,.agg #[.int .i64 2,.func (.func 136) #[] #[],.func (.func 137) #[] #[]]),(9,.agg #[.int .i64 2,.func (.func 136) #[] #[],.func (.func 139) #[] #[]])]
set_option maxHeartbeats 800000 in
theorem zq (w:World):Calls Tryz.prog 123 #[] w (fun e w'=>∃arr:Array MapEntry,e=.returned (.map (some w.heap.size))∧w'=w.alloc (.map arr 8)∧arr.toList.map (fun e=>(e.key,e.val))=eX.map (fun e=>(Value.int .i64 e.1,e.2))):=by
  go_enter Tryz.func123,Tryz.ntmps123
  go_wp2_with (first | (rw[t4]) | (rw[wi Tryz.underlying227 Tryz.underlying3 (by rfl)]))
  go_ret
  exact⟨_,rfl,rfl,rfl⟩
abbrev zt:Ct:=⟨123,[],false,.v (.mp eX)⟩
theorem oT:CC zt:=ah.of_map zq
def fG:List (Int×Value):=[(1,.agg #[.int .i64 0,.func (.func 140) #[] #[],.func (.func 141) #[] #[]]),(10,.agg #[.int .i64 3,.func (.func 142) #[] #[],.func (.func 143) #[] #[]]),(11,.agg #[.int .i64 2,.func (.func 144) #[] #[],.func (.func 145) #[] #[]]),(12,.agg #[.int .i64 1,.func (.func 146) #[] #[],.func (.func 147) #[] #[]]),(13,.agg #[.int .i64 1,.func (.func 148) #[] #[],.func (.func 149) #[] #[]])]
set_option maxHeartbeats 800000 in
theorem zu (w:World):Calls Tryz.prog 124 #[] w (fun e w'=>∃arr:Array MapEntry,e=.returned (.map (some w.heap.size))∧w'=w.alloc (.map arr 5)∧arr.toList.map (fun e=>(e.key,e.val))=fG.map (fun e=>(Value.int .i64 e.1,e.2))):=by
  go_enter Tryz.func124,Tryz.ntmps124
  go_wp2_with (first | (rw[t4]) | (rw[wi Tryz.underlying227 Tryz.underlying3 (by rfl)]))
  go_ret
  exact⟨_,rfl,rfl,rfl⟩
abbrev CJ:Ct:=⟨124,[],false,.v (.mp fG)⟩
theorem ti:CC CJ:=ah.of_map zu
def d4 (op:Int):Nat :=
  if op=1 then 140 else
  if op=2 then 127 else
  if op=3 then 130 else
  if op=4 then 130 else
  if op=5 then 130 else
  if op=6 then 130 else
  if op=7 then 130 else
  if op=8 then 136 else
  if op=9 then 136 else
  if op=10 then 142 else
  if op=11 then 144 else
  if op=12 then 146 else
  if op=13 then 148 else 0
def d5 (op:Int):Nat :=
  if op=1 then 141 else
  if op=2 then 128 else
  if op=3 then 131 else
  if op=4 then 132 else
  if op=5 then 133 else
  if op=6 then 134 else
  if op=7 then 135 else
  if op=8 then 137 else
  if op=9 then 139 else
  if op=10 then 143 else
  if op=11 then 145 else
  if op=12 then 147 else
  if op=13 then 149 else 0
abbrev cW (op:Int) (ws xs:List Int) (k w:Int):Ct:=⟨d4 op,[(.agg [(LI ws),(LI xs),(i6 k),(i6 w)])],false,i6 (bu op ws k w)⟩
abbrev cV (op:Int) (ws xs:List Int) (k w:Int):Ct:=⟨d5 op,[(.agg [(LI ws),(LI xs),(i6 k),(i6 w)])],false,i6 (pP op ws xs k w)⟩
theorem wk {op:Int} {ws:List Int} (h:A6 op ws=true):op=1∨op=2∨op=3∨op=4∨op=5∨op=6∨op=7∨op=8∨op=9∨op=10∨op=11∨op=12∨op=13:=by
  have h1:=(zo h).1
  by_cases hr:op<1∨13<op
  · have:bQ op=-1:=by unfold bQ;rw[if_neg (by omega),if_neg (by omega),if_neg (by omega),if_neg (by omega)]
    omega
  · omega
theorem LO (op:Int) (ws xs:List Int) (k w:Int) (h:A6 op ws=true):GC (cW op ws xs k w):=by
  obtain⟨h1,hf⟩:=zo h
  rcases wk h with rfl | rfl | rfl | rfl | rfl | rfl | rfl | rfl | rfl | rfl | rfl | rfl | rfl
  · (have hl:(ws.length:Int)=0:=h1);exact⟨by kernel_rfl,F8 ws xs k w (by omega) hf⟩
  · (have hl:(ws.length:Int)=1:=h1);exact⟨by kernel_rfl,HQ ws xs k w (by omega) hf⟩
  · (have hl:(ws.length:Int)=2:=h1);exact⟨by kernel_rfl,kH ws xs k w (by omega) hf⟩
  · (have hl:(ws.length:Int)=2:=h1);exact⟨by kernel_rfl,kH ws xs k w (by omega) hf⟩
  · (have hl:(ws.length:Int)=2:=h1);exact⟨by kernel_rfl,kH ws xs k w (by omega) hf⟩
  · (have hl:(ws.length:Int)=2:=h1);exact⟨by kernel_rfl,kH ws xs k w (by omega) hf⟩
  · (have hl:(ws.length:Int)=2:=h1);exact⟨by kernel_rfl,kH ws xs k w (by omega) hf⟩
  · (have hl:(ws.length:Int)=2:=h1);exact⟨by kernel_rfl,HR ws xs k w (by omega) hf⟩
  · (have hl:(ws.length:Int)=2:=h1);exact⟨by kernel_rfl,HR ws xs k w (by omega) hf⟩
  · (have hl:(ws.length:Int)=3:=h1);exact⟨by kernel_rfl,KD ws xs k w (by omega) hf⟩
  · (have hl:(ws.length:Int)=2:=h1);exact⟨by kernel_rfl,KE ws xs k w (by omega) hf⟩
  · (have hl:(ws.length:Int)=1:=h1);exact⟨by kernel_rfl,F9 ws xs k w (by omega) hf⟩
  · (have hl:(ws.length:Int)=1:=h1);exact⟨by kernel_rfl,KF ws xs k w (by omega) hf⟩
theorem OH (op:Int) (ws xs:List Int) (k w:Int) (h:pO op ws k w=true) (hx:xs.length=ws.length) (hin:F6 ws xs=true):GC (cV op ws xs k w):=by
  obtain⟨h1,hf,h3⟩:=th h
  have hb:A6 op ws=true:=by unfold A6;rw[decide_eq_true h1,hf];rfl
  rcases wk hb with rfl | rfl | rfl | rfl | rfl | rfl | rfl | rfl | rfl | rfl | rfl | rfl | rfl
  · (have hl:(ws.length:Int)=0:=h1);exact⟨by kernel_rfl,HS ws xs k w ⟨by omega,hf,hx,hin⟩⟩
  · (have hl:(ws.length:Int)=1:=h1);exact⟨by kernel_rfl,MI ws xs k w ⟨by omega,hf,hx,hin⟩⟩
  · (have hl:(ws.length:Int)=2:=h1);exact⟨by kernel_rfl,MJ ws xs k w ⟨by omega,hf,hx,hin⟩⟩
  · (have hl:(ws.length:Int)=2:=h1);exact⟨by kernel_rfl,OD ws xs k w ⟨by omega,hf,hx,hin⟩⟩
  · (have hl:(ws.length:Int)=2:=h1);exact⟨by kernel_rfl,MK ws xs k w ⟨by omega,hf,hx,hin⟩⟩
  · (have hl:(ws.length:Int)=2:=h1);exact⟨by kernel_rfl,ML ws xs k w ⟨by omega,hf,hx,hin⟩⟩
  · (have hl:(ws.length:Int)=2:=h1);exact⟨by kernel_rfl,MM ws xs k w ⟨by omega,hf,hx,hin⟩⟩
  · (have hl:(ws.length:Int)=2:=h1);exact⟨by kernel_rfl,OE ws xs k w ⟨by omega,hf,hx,hin⟩⟩
  · (have hl:(ws.length:Int)=2:=h1);exact⟨by kernel_rfl,OG ws xs k w ⟨by omega,hf,hx,hin⟩⟩
  · (have hl:(ws.length:Int)=3:=h1);exact⟨by kernel_rfl,MO ws xs k w ⟨by omega,hf,hx,hin⟩ (EC h)⟩
  · (have hl:(ws.length:Int)=2:=h1);exact⟨by kernel_rfl,MP ws xs k w ⟨by omega,hf,hx,hin⟩⟩
  · (have hl:(ws.length:Int)=1:=h1);exact⟨by kernel_rfl,HT ws xs k w ⟨by omega,hf,hx,hin⟩ (ED h)⟩
  · (have hl:(ws.length:Int)=1:=h1);exact⟨by kernel_rfl,MN ws xs k w ⟨by omega,hf,hx,hin⟩⟩
theorem wl {op:Int} (h:op=2∨op=3∨op=4∨op=5∨op=6∨op=7∨op=8∨op=9):∃(j:Nat) (e:Int×Value),eX[j]?=some e∧op=e.1∧(∀e'∈eX.take j,op≠e'.1)∧rj (D.ofVal e.2) (.agg [(aX op),(.fn (.func (d4 op)) [] []),(.fn (.func (d5 op)) [] [])]):=by
  rcases h with rfl | rfl | rfl | rfl | rfl | rfl | rfl | rfl
  · exact⟨0,_,rfl,rfl,by decide,⟨rfl,rfl,rfl,oK⟩⟩
  · exact⟨1,_,rfl,rfl,by decide,⟨rfl,rfl,rfl,oK⟩⟩
  · exact⟨2,_,rfl,rfl,by decide,⟨rfl,rfl,rfl,oK⟩⟩
  · exact⟨3,_,rfl,rfl,by decide,⟨rfl,rfl,rfl,oK⟩⟩
  · exact⟨4,_,rfl,rfl,by decide,⟨rfl,rfl,rfl,oK⟩⟩
  · exact⟨5,_,rfl,rfl,by decide,⟨rfl,rfl,rfl,oK⟩⟩
  · exact⟨6,_,rfl,rfl,by decide,⟨rfl,rfl,rfl,oK⟩⟩
  · exact⟨7,_,rfl,rfl,by decide,⟨rfl,rfl,rfl,oK⟩⟩
theorem wm {op:Int} (h:¬(op=2∨op=3∨op=4∨op=5∨op=6∨op=7∨op=8∨op=9)):∀e'∈eX,op≠e'.1:=by
  intro e' he'
  simp only[eX,List.mem_cons,List.not_mem_nil,or_false]at he'
  rcases he' with rfl | rfl | rfl | rfl | rfl | rfl | rfl | rfl<;>simp only[ne_eq]<;>omega
theorem wn {op:Int} (h:op=1∨op=10∨op=11∨op=12∨op=13):∃(j:Nat) (e:Int×Value),fG[j]?=some e∧op=e.1∧(∀e'∈fG.take j,op≠e'.1)∧rj (D.ofVal e.2) (.agg [(aX op),(.fn (.func (d4 op)) [] []),(.fn (.func (d5 op)) [] [])]):=by
  rcases h with rfl | rfl | rfl | rfl | rfl
  · exact⟨0,_,rfl,rfl,by decide,⟨rfl,rfl,rfl,oK⟩⟩
  · exact⟨1,_,rfl,rfl,by decide,⟨rfl,rfl,rfl,oK⟩⟩
  · exact⟨2,_,rfl,rfl,by decide,⟨rfl,rfl,rfl,oK⟩⟩
  · exact⟨3,_,rfl,rfl,by decide,⟨rfl,rfl,rfl,oK⟩⟩
  · exact⟨4,_,rfl,rfl,by decide,⟨rfl,rfl,rfl,oK⟩⟩
theorem CL {op:Int} (h:¬(op=1∨op=10∨op=11∨op=12∨op=13)):∀e'∈fG,op≠e'.1:=by
  intro e' he'
  simp only[fG,List.mem_cons,List.not_mem_nil,or_false]at he'
  rcases he' with rfl | rfl | rfl | rfl | rfl<;>simp only[ne_eq]<;>omega
abbrev Gb (op:Int) (ws xs:List Int) (k w:Int):Ct:=⟨117,[(i6 op),(.agg [(LI ws),(LI xs),(i6 k),(i6 w)])],true,(.tup [(.agg [(aX op),(.fn (.func (d4 op)) [] []),(.fn (.func (d5 op)) [] [])]),(i6 (bu op ws k w)),(dB (ay (bu op ws k w)))])⟩
def nz (op:Int) (ws:List Int) (xs:List Int) (k:Int) (w:Int):St:=⟨[(4,cJ),(7,cU),(9,(i6 (bu op ws k w)))],[(.var 213 [(LI ws),(LI xs),(i6 k),(i6 w)]),ef,(.var 216 [(aX op),(.fn (.func (d4 op)) [] []),(.fn (.func (d5 op)) [] [])])]⟩
def t5 (op:Int) (ws:List Int) (xs:List Int) (k:Int) (w:Int):St:=⟨[(4,cJ),(7,cU),(9,(i6 (bu op ws k w))),(44,(.agg [(aX op),(.fn (.func (d4 op)) [] []),(.fn (.func (d5 op)) [] [])]))],[(.var 213 [(LI ws),(LI xs),(i6 k),(i6 w)]),ef,(.var 216 [(aX op),(.fn (.func (d4 op)) [] []),(.fn (.func (d5 op)) [] [])])]⟩
def t6 (op:Int) (ws:List Int) (xs:List Int) (k:Int) (w:Int):St:=⟨[(4,cJ),(7,cU),(9,(i6 (bu op ws k w))),(45,(i6 (bu op ws k w)))],[(.var 213 [(LI ws),(LI xs),(i6 k),(i6 w)]),ef,(.var 216 [(aX op),(.fn (.func (d4 op)) [] []),(.fn (.func (d5 op)) [] [])])]⟩
def t7 (op:Int) (ws:List Int) (xs:List Int) (k:Int) (w:Int):St:=⟨[(4,cJ),(7,cU),(9,(i6 (bu op ws k w))),(46,(i6 (bu op ws k w)))],[(.var 213 [(LI ws),(LI xs),(i6 k),(i6 w)]),ef,(.var 216 [(aX op),(.fn (.func (d4 op)) [] []),(.fn (.func (d5 op)) [] [])])]⟩
def nA (op:Int) (ws:List Int) (xs:List Int) (k:Int) (w:Int):St:=⟨[(4,cJ),(7,cU),(9,(i6 (bu op ws k w))),(44,(.agg [(aX op),(.fn (.func (d4 op)) [] []),(.fn (.func (d5 op)) [] [])])),(45,(i6 (bu op ws k w)))],[(.var 213 [(LI ws),(LI xs),(i6 k),(i6 w)]),ef,(.var 216 [(aX op),(.fn (.func (d4 op)) [] []),(.fn (.func (d5 op)) [] [])])]⟩
def nC (op:Int) (ws:List Int) (xs:List Int) (k:Int) (w:Int):St:=⟨[(4,cJ),(7,cU),(9,(i6 (bu op ws k w))),(44,(.agg [(aX op),(.fn (.func (d4 op)) [] []),(.fn (.func (d5 op)) [] [])])),(46,(i6 (bu op ws k w)))],[(.var 213 [(LI ws),(LI xs),(i6 k),(i6 w)]),ef,(.var 216 [(aX op),(.fn (.func (d4 op)) [] []),(.fn (.func (d5 op)) [] [])])]⟩
def nG (op:Int) (ws:List Int) (xs:List Int) (k:Int) (w:Int):St:=⟨[(4,cJ),(7,cU),(9,(i6 (bu op ws k w))),(45,(i6 (bu op ws k w))),(46,(i6 (bu op ws k w)))],[(.var 213 [(LI ws),(LI xs),(i6 k),(i6 w)]),ef,(.var 216 [(aX op),(.fn (.func (d4 op)) [] []),(.fn (.func (d5 op)) [] [])])]⟩
def t8 (op:Int) (ws:List Int) (xs:List Int) (k:Int) (w:Int):St:=⟨[(4,cJ),(7,cU),(9,(i6 (bu op ws k w))),(46,(i6 (bu op ws k w))),(47,(dB (ay (bu op ws k w))))],[(.var 213 [(LI ws),(LI xs),(i6 k),(i6 w)]),ef,(.var 216 [(aX op),(.fn (.func (d4 op)) [] []),(.fn (.func (d5 op)) [] [])])]⟩
def jR (op:Int) (ws:List Int) (xs:List Int) (k:Int) (w:Int):St:=⟨[(4,cJ),(7,cU),(9,(i6 (bu op ws k w))),(44,(.agg [(aX op),(.fn (.func (d4 op)) [] []),(.fn (.func (d5 op)) [] [])])),(45,(i6 (bu op ws k w))),(46,(i6 (bu op ws k w)))],[(.var 213 [(LI ws),(LI xs),(i6 k),(i6 w)]),ef,(.var 216 [(aX op),(.fn (.func (d4 op)) [] []),(.fn (.func (d5 op)) [] [])])]⟩
def nI (op:Int) (ws:List Int) (xs:List Int) (k:Int) (w:Int):St:=⟨[(4,cJ),(7,cU),(9,(i6 (bu op ws k w))),(44,(.agg [(aX op),(.fn (.func (d4 op)) [] []),(.fn (.func (d5 op)) [] [])])),(46,(i6 (bu op ws k w))),(47,(dB (ay (bu op ws k w))))],[(.var 213 [(LI ws),(LI xs),(i6 k),(i6 w)]),ef,(.var 216 [(aX op),(.fn (.func (d4 op)) [] []),(.fn (.func (d5 op)) [] [])])]⟩
def lI (op:Int) (ws:List Int) (xs:List Int) (k:Int) (w:Int):St:=⟨[(4,cJ),(7,cU),(9,(i6 (bu op ws k w))),(45,(i6 (bu op ws k w))),(46,(i6 (bu op ws k w))),(47,(dB (ay (bu op ws k w))))],[(.var 213 [(LI ws),(LI xs),(i6 k),(i6 w)]),ef,(.var 216 [(aX op),(.fn (.func (d4 op)) [] []),(.fn (.func (d5 op)) [] [])])]⟩
def iw (op:Int) (ws:List Int) (xs:List Int) (k:Int) (w:Int):St:=⟨[(4,cJ),(7,cU),(9,(i6 (bu op ws k w))),(44,(.agg [(aX op),(.fn (.func (d4 op)) [] []),(.fn (.func (d5 op)) [] [])])),(45,(i6 (bu op ws k w))),(46,(i6 (bu op ws k w))),(47,(dB (ay (bu op ws k w))))],[(.var 213 [(LI ws),(LI xs),(i6 k),(i6 w)]),ef,(.var 216 [(aX op),(.fn (.func (d4 op)) [] []),(.fn (.func (d5 op)) [] [])])]⟩
def rJ (op:Int) (ws:List Int) (xs:List Int) (k:Int) (w:Int):St:=⟨[(4,cJ),(7,cU),(9,(i6 (bu op ws k w))),(44,(.agg [(aX op),(.fn (.func (d4 op)) [] []),(.fn (.func (d5 op)) [] [])])),(46,(i6 (bu op ws k w))),(47,(dB (ay (bu op ws k w))))],[(.var 213 [(LI ws),(LI xs),(i6 k),(i6 w)]),(.var 216 [(aX op),(.fn (.func (d4 op)) [] []),(.fn (.func (d5 op)) [] [])]),(.var 216 [(aX op),(.fn (.func (d4 op)) [] []),(.fn (.func (d5 op)) [] [])])]⟩
def lJ (op:Int) (ws:List Int) (xs:List Int) (k:Int) (w:Int):St:=⟨[(4,cJ),(7,cU),(9,(i6 (bu op ws k w))),(44,(.agg [(aX op),(.fn (.func (d4 op)) [] []),(.fn (.func (d5 op)) [] [])])),(45,(i6 (bu op ws k w))),(46,(i6 (bu op ws k w))),(47,(dB (ay (bu op ws k w))))],[(.var 213 [(LI ws),(LI xs),(i6 k),(i6 w)]),(.var 216 [(aX op),(.fn (.func (d4 op)) [] []),(.fn (.func (d5 op)) [] [])]),(.var 216 [(aX op),(.fn (.func (d4 op)) [] []),(.fn (.func (d5 op)) [] [])])]⟩
def rK (op:Int) (ws:List Int) (xs:List Int) (k:Int) (w:Int):St:=⟨[(4,cJ),(5,(i6 (bu op ws k w))),(7,cU),(9,(i6 (bu op ws k w))),(44,(.agg [(aX op),(.fn (.func (d4 op)) [] []),(.fn (.func (d5 op)) [] [])])),(45,(i6 (bu op ws k w))),(46,(i6 (bu op ws k w))),(47,(dB (ay (bu op ws k w))))],[(.var 213 [(LI ws),(LI xs),(i6 k),(i6 w)]),(.var 216 [(aX op),(.fn (.func (d4 op)) [] []),(.fn (.func (d5 op)) [] [])]),(.var 216 [(aX op),(.fn (.func (d4 op)) [] []),(.fn (.func (d5 op)) [] [])])]⟩
def rL (op:Int) (ws:List Int) (xs:List Int) (k:Int) (w:Int):St:=⟨[(4,cJ),(5,(i6 (bu op ws k w))),(6,(dB (ay (bu op ws k w))))],[(.var 213 [(LI ws),(LI xs),(i6 k),(i6 w)]),(.var 216 [(aX op),(.fn (.func (d4 op)) [] []),(.fn (.func (d5 op)) [] [])]),(.var 216 [(aX op),(.fn (.func (d4 op)) [] []),(.fn (.func (d5 op)) [] [])])]⟩
def lK (op:Int) (ws:List Int) (xs:List Int) (k:Int) (w:Int):St:=⟨[(4,cJ),(7,cU),(9,(i6 (bu op ws k w)))],[(.var 213 [(LI ws),(LI xs),(i6 k),(i6 w)]),ef,(.var 216 [(aX op),(.fn (.func (d4 op)) [] []),(.fn (.func (d5 op)) [] [])])]⟩
def rM (op:Int) (ws:List Int) (xs:List Int) (k:Int) (w:Int):St:=⟨[(4,cJ),(7,cU),(9,(i6 (bu op ws k w))),(44,(.agg [(aX op),(.fn (.func (d4 op)) [] []),(.fn (.func (d5 op)) [] [])]))],[(.var 213 [(LI ws),(LI xs),(i6 k),(i6 w)]),ef,(.var 216 [(aX op),(.fn (.func (d4 op)) [] []),(.fn (.func (d5 op)) [] [])])]⟩
def rN (op:Int) (ws:List Int) (xs:List Int) (k:Int) (w:Int):St:=⟨[(4,cJ),(7,cU),(9,(i6 (bu op ws k w))),(45,(i6 (bu op ws k w)))],[(.var 213 [(LI ws),(LI xs),(i6 k),(i6 w)]),ef,(.var 216 [(aX op),(.fn (.func (d4 op)) [] []),(.fn (.func (d5 op)) [] [])])]⟩
def rO (op:Int) (ws:List Int) (xs:List Int) (k:Int) (w:Int):St:=⟨[(4,cJ),(7,cU),(9,(i6 (bu op ws k w))),(46,(i6 (bu op ws k w)))],[(.var 213 [(LI ws),(LI xs),(i6 k),(i6 w)]),ef,(.var 216 [(aX op),(.fn (.func (d4 op)) [] []),(.fn (.func (d5 op)) [] [])])]⟩
def lL (op:Int) (ws:List Int) (xs:List Int) (k:Int) (w:Int):St:=⟨[(4,cJ),(7,cU),(9,(i6 (bu op ws k w))),(44,(.agg [(aX op),(.fn (.func (d4 op)) [] []),(.fn (.func (d5 op)) [] [])])),(45,(i6 (bu op ws k w)))],[(.var 213 [(LI ws),(LI xs),(i6 k),(i6 w)]),ef,(.var 216 [(aX op),(.fn (.func (d4 op)) [] []),(.fn (.func (d5 op)) [] [])])]⟩
def lM (op:Int) (ws:List Int) (xs:List Int) (k:Int) (w:Int):St:=⟨[(4,cJ),(7,cU),(9,(i6 (bu op ws k w))),(44,(.agg [(aX op),(.fn (.func (d4 op)) [] []),(.fn (.func (d5 op)) [] [])])),(46,(i6 (bu op ws k w)))],[(.var 213 [(LI ws),(LI xs),(i6 k),(i6 w)]),ef,(.var 216 [(aX op),(.fn (.func (d4 op)) [] []),(.fn (.func (d5 op)) [] [])])]⟩
def lN (op:Int) (ws:List Int) (xs:List Int) (k:Int) (w:Int):St:=⟨[(4,cJ),(7,cU),(9,(i6 (bu op ws k w))),(45,(i6 (bu op ws k w))),(46,(i6 (bu op ws k w)))],[(.var 213 [(LI ws),(LI xs),(i6 k),(i6 w)]),ef,(.var 216 [(aX op),(.fn (.func (d4 op)) [] []),(.fn (.func (d5 op)) [] [])])]⟩
def rP (op:Int) (ws:List Int) (xs:List Int) (k:Int) (w:Int):St:=⟨[(4,cJ),(7,cU),(9,(i6 (bu op ws k w))),(46,(i6 (bu op ws k w))),(47,(dB (ay (bu op ws k w))))],[(.var 213 [(LI ws),(LI xs),(i6 k),(i6 w)]),ef,(.var 216 [(aX op),(.fn (.func (d4 op)) [] []),(.fn (.func (d5 op)) [] [])])]⟩
def iy (op:Int) (ws:List Int) (xs:List Int) (k:Int) (w:Int):St:=⟨[(4,cJ),(7,cU),(9,(i6 (bu op ws k w))),(44,(.agg [(aX op),(.fn (.func (d4 op)) [] []),(.fn (.func (d5 op)) [] [])])),(45,(i6 (bu op ws k w))),(46,(i6 (bu op ws k w)))],[(.var 213 [(LI ws),(LI xs),(i6 k),(i6 w)]),ef,(.var 216 [(aX op),(.fn (.func (d4 op)) [] []),(.fn (.func (d5 op)) [] [])])]⟩
def lO (op:Int) (ws:List Int) (xs:List Int) (k:Int) (w:Int):St:=⟨[(4,cJ),(7,cU),(9,(i6 (bu op ws k w))),(44,(.agg [(aX op),(.fn (.func (d4 op)) [] []),(.fn (.func (d5 op)) [] [])])),(46,(i6 (bu op ws k w))),(47,(dB (ay (bu op ws k w))))],[(.var 213 [(LI ws),(LI xs),(i6 k),(i6 w)]),ef,(.var 216 [(aX op),(.fn (.func (d4 op)) [] []),(.fn (.func (d5 op)) [] [])])]⟩
def ke (op:Int) (ws:List Int) (xs:List Int) (k:Int) (w:Int):St:=⟨[(4,cJ),(7,cU),(9,(i6 (bu op ws k w))),(45,(i6 (bu op ws k w))),(46,(i6 (bu op ws k w))),(47,(dB (ay (bu op ws k w))))],[(.var 213 [(LI ws),(LI xs),(i6 k),(i6 w)]),ef,(.var 216 [(aX op),(.fn (.func (d4 op)) [] []),(.fn (.func (d5 op)) [] [])])]⟩
def gI (op:Int) (ws:List Int) (xs:List Int) (k:Int) (w:Int):St:=⟨[(4,cJ),(7,cU),(9,(i6 (bu op ws k w))),(44,(.agg [(aX op),(.fn (.func (d4 op)) [] []),(.fn (.func (d5 op)) [] [])])),(45,(i6 (bu op ws k w))),(46,(i6 (bu op ws k w))),(47,(dB (ay (bu op ws k w))))],[(.var 213 [(LI ws),(LI xs),(i6 k),(i6 w)]),ef,(.var 216 [(aX op),(.fn (.func (d4 op)) [] []),(.fn (.func (d5 op)) [] [])])]⟩
def qa (op:Int) (ws:List Int) (xs:List Int) (k:Int) (w:Int):St:=⟨[(4,cJ),(7,cU),(9,(i6 (bu op ws k w))),(44,(.agg [(aX op),(.fn (.func (d4 op)) [] []),(.fn (.func (d5 op)) [] [])])),(46,(i6 (bu op ws k w))),(47,(dB (ay (bu op ws k w))))],[(.var 213 [(LI ws),(LI xs),(i6 k),(i6 w)]),(.var 216 [(aX op),(.fn (.func (d4 op)) [] []),(.fn (.func (d5 op)) [] [])]),(.var 216 [(aX op),(.fn (.func (d4 op)) [] []),(.fn (.func (d5 op)) [] [])])]⟩
def kf (op:Int) (ws:List Int) (xs:List Int) (k:Int) (w:Int):St:=⟨[(4,cJ),(7,cU),(9,(i6 (bu op ws k w))),(44,(.agg [(aX op),(.fn (.func (d4 op)) [] []),(.fn (.func (d5 op)) [] [])])),(45,(i6 (bu op ws k w))),(46,(i6 (bu op ws k w))),(47,(dB (ay (bu op ws k w))))],[(.var 213 [(LI ws),(LI xs),(i6 k),(i6 w)]),(.var 216 [(aX op),(.fn (.func (d4 op)) [] []),(.fn (.func (d5 op)) [] [])]),(.var 216 [(aX op),(.fn (.func (d4 op)) [] []),(.fn (.func (d5 op)) [] [])])]⟩
def qb (op:Int) (ws:List Int) (xs:List Int) (k:Int) (w:Int):St:=⟨[(4,cJ),(5,(i6 (bu op ws k w))),(7,cU),(9,(i6 (bu op ws k w))),(44,(.agg [(aX op),(.fn (.func (d4 op)) [] []),(.fn (.func (d5 op)) [] [])])),(45,(i6 (bu op ws k w))),(46,(i6 (bu op ws k w))),(47,(dB (ay (bu op ws k w))))],[(.var 213 [(LI ws),(LI xs),(i6 k),(i6 w)]),(.var 216 [(aX op),(.fn (.func (d4 op)) [] []),(.fn (.func (d5 op)) [] [])]),(.var 216 [(aX op),(.fn (.func (d4 op)) [] []),(.fn (.func (d5 op)) [] [])])]⟩
def qc (op:Int) (ws:List Int) (xs:List Int) (k:Int) (w:Int):St:=⟨[(4,cJ),(5,(i6 (bu op ws k w))),(6,(dB (ay (bu op ws k w))))],[(.var 213 [(LI ws),(LI xs),(i6 k),(i6 w)]),(.var 216 [(aX op),(.fn (.func (d4 op)) [] []),(.fn (.func (d5 op)) [] [])]),(.var 216 [(aX op),(.fn (.func (d4 op)) [] []),(.fn (.func (d5 op)) [] [])])]⟩
theorem yc (op:Int) (ws xs:List Int) (k w:Int) (hw:ws.length≤9223372036854775807) (h:A6 op ws=true):CC (Gb op ws xs k w):=by
 obtain⟨h1,h2⟩:=zo h
 have hop:=wk h
 refine ah.vc (V:=TT 4 (CS (op=2∨op=3∨op=4∨op=5∨op=6∨op=7∨op=8∨op=9) (CC zt∧TT 1 ((∃(j:Nat) (e:Int×Value),eX[j]?=some e∧op=e.1∧(∀e'∈eX.take j,op≠e'.1)∧rj (D.ofVal e.2) (.agg [(aX op),(.fn (.func (d4 op)) [] []),(.fn (.func (d5 op)) [] [])]))∧TT 18 ((True∧(!decide ((ws.length:Int)=(bQ op)))=false)∧TT 2 (CC (KC ws)∧TT 1 ((!(ws.all ay))=false∧TT 3 (GC (cW op ws xs k w)∧TT 1 ((nz op ws xs k w)=(nz op ws xs k w)∧(((sE (t5 op ws xs k w) (True))∧(sE (t6 op ws xs k w) (True))∧(sE (t7 op ws xs k w) (True))∧True)∧((sE (nA op ws xs k w) (True))∧(sE (nC op ws xs k w) (True))∧True)∧((sE (nA op ws xs k w) (True))∧(sE (nG op ws xs k w) (True))∧True)∧((sE (nC op ws xs k w) (True))∧(sE (nG op ws xs k w) (True))∧(sE (t8 op ws xs k w) (CC (ic (bu op ws k w))))∧True)∧((sE (jR op ws xs k w) (True))∧True)∧((sE (jR op ws xs k w) (True))∧(sE (nI op ws xs k w) (CC (ic (bu op ws k w))))∧True)∧((sE (jR op ws xs k w) (True))∧(sE (lI op ws xs k w) (CC (ic (bu op ws k w))))∧True)∧((sE (nI op ws xs k w) (True))∧(sE (lI op ws xs k w) (True))∧True)∧((sE (iw op ws xs k w) (CC (ic (bu op ws k w))))∧True)∧((sE (iw op ws xs k w) (True))∧(sE (rJ op ws xs k w) (True))∧True)∧((sE (iw op ws xs k w) (True))∧True)∧((sE (lJ op ws xs k w) (True))∧True)∧((sE (lJ op ws xs k w) (True))∧True)∧((sE (rK op ws xs k w) (True))∧True)∧((sE (rL op ws xs k w) (True))∧True)∧True∧True)∧TT 3 (((bQ op)=(bQ op)∧((.fn (.func (d4 op)) [] []):D)=(.fn (.func (d4 op)) [] [])∧((.fn (.func (d5 op)) [] []):D)=(.fn (.func (d5 op)) [] [])∧True)∧(bu op ws k w)=(bu op ws k w)∧(ay (bu op ws k w))=(ay (bu op ws k w))∧True)))))))) (CC zt∧TT 1 ((∀e'∈eX,op≠e'.1)∧TT 8 (CC CJ∧TT 1 ((∃(j:Nat) (e:Int×Value),fG[j]?=some e∧op=e.1∧(∀e'∈fG.take j,op≠e'.1)∧rj (D.ofVal e.2) (.agg [(aX op),(.fn (.func (d4 op)) [] []),(.fn (.func (d5 op)) [] [])]))∧TT 15 ((True∧(!decide ((ws.length:Int)=(bQ op)))=false)∧TT 2 (CC (KC ws)∧TT 1 ((!(ws.all ay))=false∧TT 3 (GC (cW op ws xs k w)∧TT 1 ((lK op ws xs k w)=(lK op ws xs k w)∧(((sE (rM op ws xs k w) (True))∧(sE (rN op ws xs k w) (True))∧(sE (rO op ws xs k w) (True))∧True)∧((sE (lL op ws xs k w) (True))∧(sE (lM op ws xs k w) (True))∧True)∧((sE (lL op ws xs k w) (True))∧(sE (lN op ws xs k w) (True))∧True)∧((sE (lM op ws xs k w) (True))∧(sE (lN op ws xs k w) (True))∧(sE (rP op ws xs k w) (CC (ic (bu op ws k w))))∧True)∧((sE (iy op ws xs k w) (True))∧True)∧((sE (iy op ws xs k w) (True))∧(sE (lO op ws xs k w) (CC (ic (bu op ws k w))))∧True)∧((sE (iy op ws xs k w) (True))∧(sE (ke op ws xs k w) (CC (ic (bu op ws k w))))∧True)∧((sE (lO op ws xs k w) (True))∧(sE (ke op ws xs k w) (True))∧True)∧((sE (gI op ws xs k w) (CC (ic (bu op ws k w))))∧True)∧((sE (gI op ws xs k w) (True))∧(sE (qa op ws xs k w) (True))∧True)∧((sE (gI op ws xs k w) (True))∧True)∧((sE (kf op ws xs k w) (True))∧True)∧((sE (kf op ws xs k w) (True))∧True)∧((sE (qb op ws xs k w) (True))∧True)∧((sE (qc op ws xs k w) (True))∧True)∧True∧True)∧TT 3 (((bQ op)=(bQ op)∧((.fn (.func (d4 op)) [] []):D)=(.fn (.func (d4 op)) [] [])∧((.fn (.func (d5 op)) [] []):D)=(.fn (.func (d5 op)) [] [])∧True)∧(bu op ws k w)=(bu op ws k w)∧(ay (bu op ws k w))=(ay (bu op ws k w))∧True)))))))))))) (.s 1 (op=2∨op=3∨op=4∨op=5∨op=6∨op=7∨op=8∨op=9) (.w 1 [(0,zt.O),(2,.ent (.agg [(aX op),(.fn (.func (d4 op)) [] []),(.fn (.func (d5 op)) [] [])]))]<|.w 4 [(10,.val (dB false)),(13,(KC ws).O)]<|.u 38 (.w 6 [(3,.callg none false (i6 (bu op ws k w)))]<|.y 7 [(3,(ic (bu op ws k w)).O)] [((bm 7 0),(nz op ws xs k w)),((bm 7 1),(t5 op ws xs k w)),((bm 7 2),(t6 op ws xs k w)),((bm 7 4),(t7 op ws xs k w)),((bm 7 3),(nA op ws xs k w)),((bm 7 5),(nC op ws xs k w)),((bm 7 6),(nG op ws xs k w)),((bm 7 12),(t8 op ws xs k w)),((bm 7 7),(jR op ws xs k w)),((bm 7 13),(nI op ws xs k w)),((bm 7 14),(lI op ws xs k w)),((bm 7 15),(iw op ws xs k w)),((bm 7 29),(rJ op ws xs k w)),((bm 7 31),(lJ op ws xs k w)),((bm 7 63),(rK op ws xs k w)),((bm 7 127),(rL op ws xs k w))]<|.e)) (.w 1 [(0,zt.O),(2,.idx none)]<|.w 3 [(0,CJ.O),(2,.ent (.agg [(aX op),(.fn (.func (d4 op)) [] []),(.fn (.func (d5 op)) [] [])]))]<|.w 4 [(10,.val (dB false)),(13,(KC ws).O)]<|.u 38 (.w 6 [(3,.callg none false (i6 (bu op ws k w)))]<|.y 7 [(3,(ic (bu op ws k w)).O)] [((bm 7 0),(lK op ws xs k w)),((bm 7 1),(rM op ws xs k w)),((bm 7 2),(rN op ws xs k w)),((bm 7 4),(rO op ws xs k w)),((bm 7 3),(lL op ws xs k w)),((bm 7 5),(lM op ws xs k w)),((bm 7 6),(lN op ws xs k w)),((bm 7 12),(rP op ws xs k w)),((bm 7 7),(iy op ws xs k w)),((bm 7 13),(lO op ws xs k w)),((bm 7 14),(ke op ws xs k w)),((bm 7 15),(gI op ws xs k w)),((bm 7 29),(qa op ws xs k w)),((bm 7 31),(kf op ws xs k w)),((bm 7 63),(qb op ws xs k w)),((bm 7 127),(qc op ws xs k w))]<|.e))) Tryz.func117 rfl rfl rfl (by kernel_rfl) ?_
 refine tt ⟨fun hs0=>?_,fun hs0=>?_⟩
 · have hS:=hs0
   exact⟨oT,tt ⟨(wl hS),tt ⟨(nF h1),tt ⟨(jP ws hw),tt ⟨(Ky h2),tt ⟨(LO op ws xs k w h),tt ⟨rfl,⟨⟨⟨⟨rfl,oK,oK⟩,⟨rfl,oK,oK⟩,⟨rfl,oK,oK⟩,oK⟩,⟨⟨rfl,oK,oK⟩,⟨rfl,oK,oK⟩,oK⟩,⟨⟨rfl,oK,oK⟩,⟨rfl,oK,oK⟩,oK⟩,⟨⟨rfl,oK,oK⟩,⟨rfl,oK,oK⟩,⟨rfl,(dM (bu op ws k w)),oK⟩,oK⟩,⟨⟨rfl,oK,oK⟩,oK⟩,⟨⟨rfl,oK,oK⟩,⟨rfl,(dM (bu op ws k w)),oK⟩,oK⟩,⟨⟨rfl,oK,oK⟩,⟨rfl,(dM (bu op ws k w)),oK⟩,oK⟩,⟨⟨rfl,oK,oK⟩,⟨rfl,oK,oK⟩,oK⟩,⟨⟨rfl,(dM (bu op ws k w)),oK⟩,oK⟩,⟨⟨rfl,oK,oK⟩,⟨rfl,oK,oK⟩,oK⟩,⟨⟨rfl,oK,oK⟩,oK⟩,⟨⟨rfl,oK,oK⟩,oK⟩,⟨⟨rfl,oK,oK⟩,oK⟩,⟨⟨rfl,oK,oK⟩,oK⟩,⟨⟨rfl,oK,oK⟩,oK⟩,oK,oK⟩,tt ⟨⟨rfl,rfl,rfl,oK⟩,rfl,rfl,oK⟩⟩⟩⟩⟩⟩⟩⟩⟩
 · have hS:=hs0
   exact⟨oT,tt ⟨(wm hS),tt ⟨ti,tt ⟨(wn (by omega)),tt ⟨(nF h1),tt ⟨(jP ws hw),tt ⟨(Ky h2),tt ⟨(LO op ws xs k w h),tt ⟨rfl,⟨⟨⟨⟨rfl,oK,oK⟩,⟨rfl,oK,oK⟩,⟨rfl,oK,oK⟩,oK⟩,⟨⟨rfl,oK,oK⟩,⟨rfl,oK,oK⟩,oK⟩,⟨⟨rfl,oK,oK⟩,⟨rfl,oK,oK⟩,oK⟩,⟨⟨rfl,oK,oK⟩,⟨rfl,oK,oK⟩,⟨rfl,(dM (bu op ws k w)),oK⟩,oK⟩,⟨⟨rfl,oK,oK⟩,oK⟩,⟨⟨rfl,oK,oK⟩,⟨rfl,(dM (bu op ws k w)),oK⟩,oK⟩,⟨⟨rfl,oK,oK⟩,⟨rfl,(dM (bu op ws k w)),oK⟩,oK⟩,⟨⟨rfl,oK,oK⟩,⟨rfl,oK,oK⟩,oK⟩,⟨⟨rfl,(dM (bu op ws k w)),oK⟩,oK⟩,⟨⟨rfl,oK,oK⟩,⟨rfl,oK,oK⟩,oK⟩,⟨⟨rfl,oK,oK⟩,oK⟩,⟨⟨rfl,oK,oK⟩,oK⟩,⟨⟨rfl,oK,oK⟩,oK⟩,⟨⟨rfl,oK,oK⟩,oK⟩,⟨⟨rfl,oK,oK⟩,oK⟩,oK,oK⟩,tt ⟨⟨rfl,rfl,rfl,oK⟩,rfl,rfl,oK⟩⟩⟩⟩⟩⟩⟩⟩⟩⟩⟩
abbrev Gc (op:Int) (ws xs:List Int) (k w:Int):Ct:=⟨117,[(i6 op),(.agg [(LI ws),(LI xs),(i6 k),(i6 w)])],true,(.tup [(.agg [(i6 0),(.v .nilf),(.v .nilf)]),(i6 0),(dB false)])⟩
theorem yd (op:Int) (ws xs:List Int) (k w:Int) (hw:ws.length≤9223372036854775807) (h:A6 op ws=false):CC (Gc op ws xs k w):=by
 refine ah.vc (V:=TT 4 (CS (op=2∨op=3∨op=4∨op=5∨op=6∨op=7∨op=8∨op=9) (CC zt∧TT 1 ((∃(j:Nat) (e:Int×Value),eX[j]?=some e∧op=e.1∧(∀e'∈eX.take j,op≠e'.1)∧rj (D.ofVal e.2) (.agg [(aX op),(.fn (.func (d4 op)) [] []),(.fn (.func (d5 op)) [] [])]))∧TT 8 (CS ((ws.length:Int)=(bQ op)) (TT 10 ((True∧(!decide ((ws.length:Int)=(bQ op)))=false)∧TT 2 (CC (KC ws)∧TT 1 ((!(ws.all ay))=true∧TT 7 (((0:Int)=0∧True∧True∧True)∧(0:Int)=0∧false=false∧True))))) (TT 10 ((True∧(!decide ((ws.length:Int)=(bQ op)))=true)∧TT 11 (((0:Int)=0∧True∧True∧True)∧(0:Int)=0∧false=false∧True)))))) (CC zt∧TT 1 ((∀e'∈eX,op≠e'.1)∧TT 8 (CS (op=1∨op=10∨op=11∨op=12∨op=13) (CC CJ∧TT 1 ((∃(j:Nat) (e:Int×Value),fG[j]?=some e∧op=e.1∧(∀e'∈fG.take j,op≠e'.1)∧rj (D.ofVal e.2) (.agg [(aX op),(.fn (.func (d4 op)) [] []),(.fn (.func (d5 op)) [] [])]))∧TT 5 (CS ((ws.length:Int)=(bQ op)) (TT 10 ((True∧(!decide ((ws.length:Int)=(bQ op)))=false)∧TT 2 (CC (KC ws)∧TT 1 ((!(ws.all ay))=true∧TT 7 (((0:Int)=0∧True∧True∧True)∧(0:Int)=0∧false=false∧True))))) (TT 10 ((True∧(!decide ((ws.length:Int)=(bQ op)))=true)∧TT 11 (((0:Int)=0∧True∧True∧True)∧(0:Int)=0∧false=false∧True)))))) (CC CJ∧TT 1 ((∀e'∈fG,op≠e'.1)∧TT 27 (((0:Int)=0∧True∧True∧True)∧(0:Int)=0∧false=false∧True)))))))) (.s 1 (op=2∨op=3∨op=4∨op=5∨op=6∨op=7∨op=8∨op=9) (.w 1 [(0,zt.O),(2,.ent (.agg [(aX op),(.fn (.func (d4 op)) [] []),(.fn (.func (d5 op)) [] [])]))]<|.s 4 ((ws.length:Int)=(bQ op)) (.w 4 [(10,.val (dB false)),(13,(KC ws).O)]<|.t 38 (.e)) (.w 4 [(10,.val (dB true))]<|.e)) (.w 1 [(0,zt.O),(2,.idx none)]<|.s 3 (op=1∨op=10∨op=11∨op=12∨op=13) (.w 3 [(0,CJ.O),(2,.ent (.agg [(aX op),(.fn (.func (d4 op)) [] []),(.fn (.func (d5 op)) [] [])]))]<|.s 4 ((ws.length:Int)=(bQ op)) (.w 4 [(10,.val (dB false)),(13,(KC ws).O)]<|.t 38 (.e)) (.w 4 [(10,.val (dB true))]<|.e)) (.w 3 [(0,CJ.O),(2,.idx none)]<|.e))) Tryz.func117 rfl rfl rfl (by kernel_rfl) ?_
 refine tt ⟨fun hs0=>?_,fun hs0=>?_⟩
 · have hS:=hs0
   refine⟨oT,tt ⟨(wl hS),tt ⟨fun hs1=>?_,fun hs1=>?_⟩⟩⟩
   · exact tt ⟨(nF hs1),tt ⟨(jP ws hw),tt ⟨(PN (by rcases HL h with h5 | ⟨_,h5⟩;exact absurd (by assumption) h5;rw[h5];simp)),tt ⟨⟨rfl,oK,oK,oK⟩,rfl,rfl,oK⟩⟩⟩⟩
   · exact tt ⟨(nT hs1),tt ⟨⟨rfl,oK,oK,oK⟩,rfl,rfl,oK⟩⟩
 · have hS:=hs0
   refine⟨oT,tt ⟨(wm hS),tt ⟨fun hs2=>?_,fun hs2=>?_⟩⟩⟩
   · have hO:=hs2
     refine⟨ti,tt ⟨(wn hO),tt ⟨fun hs3=>?_,fun hs3=>?_⟩⟩⟩
     · exact tt ⟨(nF hs3),tt ⟨(jP ws hw),tt ⟨(PN (by rcases HL h with h5 | ⟨_,h5⟩;exact absurd (by assumption) h5;rw[h5];simp)),tt ⟨⟨rfl,oK,oK,oK⟩,rfl,rfl,oK⟩⟩⟩⟩
     · exact tt ⟨(nT hs3),tt ⟨⟨rfl,oK,oK,oK⟩,rfl,rfl,oK⟩⟩
   · have hO:=hs2
     exact⟨ti,tt ⟨(CL hO),tt ⟨⟨rfl,oK,oK,oK⟩,rfl,rfl,oK⟩⟩⟩
theorem qG {op:Int} {ws:List Int} {k w:Int} (h:A6 op ws=true) (h2:ay (bu op ws k w)=true):pO op ws k w=true:=by rw[CH,h,h2];rfl
theorem cD {op:Int} {ws:List Int} {k w:Int} (h:¬A6 op ws=true):pO op ws k w=false:=by rw[CH,Bool.eq_false_iff.2 h];rfl
theorem cE {op:Int} {ws:List Int} {k w:Int} (h2:¬ay (bu op ws k w)=true):pO op ws k w=false:=by rw[CH,Bool.eq_false_iff.2 h2,Bool.and_false]
theorem mN {op:Int} {ws:List Int} {k w:Int} (h:pO op ws k w=false):0=gy op ws k w∧1=ny op ws k w:=by unfold gy ny;rw[h];exact⟨rfl,rfl⟩
theorem tj {op:Int} {ws:List Int} {k w:Int} (h:pO op ws k w=true):bu op ws k w=gy op ws k w∧0=ny op ws k w:=by unfold gy ny;rw[h];exact⟨rfl,rfl⟩
abbrev MQ (op:Int) (ws:List Int) (k w:Int):Ct:=⟨105,[(i6 op),(LI ws),(.agg [(i6 k),(i6 w)])],false,(.tup [(i6 (gy op ws k w)),(i6 (ny op ws k w))])⟩
theorem HU (op:Int) (ws:List Int) (k w:Int) (hw:ws.length≤9223372036854775807):CC (MQ op ws k w):=by
 refine ah.vc (V:=TT 3 (CS (A6 op ws=true) (TT 2 (((0≤(0:Int)∧0<(2:Int))∧True)∧TT 1 (((0≤(1:Int)∧1<(2:Int))∧True)∧TT 2 ((xi [] [(i6 op),(.agg [(LI ws),.nils,(i6 k),(i6 w)])] (Gb op ws [] k w).as∧CC (Gb op ws [] k w))∧TT 10 (CB (!(ay (bu op ws k w))) (TT 4 (((0:Int)=(gy op ws k w)∧(1:Int)=(ny op ws k w)∧True)∧(True∧True∧True))) (TT 5 (((bu op ws k w)=(gy op ws k w)∧(0:Int)=(ny op ws k w)∧True)∧(True∧True∧True)))))))) (TT 2 (((0≤(0:Int)∧0<(2:Int))∧True)∧TT 1 (((0≤(1:Int)∧1<(2:Int))∧True)∧TT 2 ((xi [] [(i6 op),(.agg [(LI ws),.nils,(i6 k),(i6 w)])] (Gc op ws [] k w).as∧CC (Gc op ws [] k w))∧TT 14 (((0:Int)=(gy op ws k w)∧(1:Int)=(ny op ws k w)∧True)∧(True∧True∧True)))))))) (.s 1 (A6 op ws=true) (.w 1 [(7,(Gb op ws [] k w).O')]<|.b 24 (.e) (.e)) (.w 1 [(7,(Gc op ws [] k w).O')]<|.e)) Tryz.func105 rfl rfl rfl (by kernel_rfl) ?_
 refine tt ⟨fun hs0=>?_,fun hs0=>?_⟩
 · have hb:=hs0
   refine tt ⟨⟨by omega,oK⟩,tt ⟨⟨by omega,oK⟩,tt ⟨⟨⟨rfl,⟨rfl,rfl,rfl,rfl,oK⟩,oK⟩,(yc op ws [] k w hw hb)⟩,tt ⟨fun hc24=>?_,fun hc24=>?_⟩⟩⟩⟩
   · refine tt ⟨⟨?_,?_,oK⟩,⟨oK,oK,oK⟩⟩
     all_goals (first | exact(mN (cD hb)).1 | exact(mN (cD hb)).2 | exact(mN (cE (by simpa using hc24))).1 | exact(mN (cE (by simpa using hc24))).2 | exact(tj (qG hb (by simpa using hc24))).1 | exact(tj (qG hb (by simpa using hc24))).2)
   · refine tt ⟨⟨?_,?_,oK⟩,⟨oK,oK,oK⟩⟩
     all_goals (first | exact(mN (cD hb)).1 | exact(mN (cD hb)).2 | exact(mN (cE (by simpa using hc24))).1 | exact(mN (cE (by simpa using hc24))).2 | exact(tj (qG hb (by simpa using hc24))).1 | exact(tj (qG hb (by simpa using hc24))).2)
 · have hb:=hs0
   refine tt ⟨⟨by omega,oK⟩,tt ⟨⟨by omega,oK⟩,tt ⟨⟨⟨rfl,⟨rfl,rfl,rfl,rfl,oK⟩,oK⟩,(yd op ws [] k w hw (Bool.eq_false_iff.2 hb))⟩,tt ⟨⟨?_,?_,oK⟩,⟨oK,oK,oK⟩⟩⟩⟩⟩
   all_goals (first | exact(mN (cD hb)).1 | exact(mN (cD hb)).2 | exact(mN (cE (by simpa using hc24))).1 | exact(mN (cE (by simpa using hc24))).2 | exact(tj (qG hb (by simpa using hc24))).1 | exact(tj (qG hb (by simpa using hc24))).2)
abbrev MR (op:Int) (ws xs nums:List Int):Ct:=⟨104,[(i6 op),(LI ws),(LI xs),(LI nums)],false,(.tup [(i6 (dZ op ws xs nums)),(i6 (ib op ws xs nums))])⟩
abbrev rQ (op:Int) (ws:List Int) (xs:List Int) (nums:List Int):Lp (Nat):=li [1,10,11,44,45,46] 11 (fun (i:Nat)=>⟨[(1,(LI ws)),(10,(.ptr 9 0 0 0)),(11,(.ptr 10 0 0 0)),(44,(LI xs)),(45,(i6 (xs.length:Int))),(46,(i6 (i:Int)))],[.dead,.dead,.dead,.dead,.dead,.dead,.dead,.dead,.dead,(.var 213 [(LI ws),(LI xs),(i6 (nums.getD 0 0)),(i6 (nums.getD 1 0))]),(.var 216 [(aX op),(.fn (.func (d4 op)) [] []),(.fn (.func (d5 op)) [] [])])]⟩) (fun (i:Nat)=>i≤xs.length∧∀j,j<i→0≤xs.getD j 0∧xs.getD j 0≤an (ws.getD j 0)) (fun (i:Nat)=>xs.length-i)
theorem HV (op:Int) (ws xs nums:List Int) (hwl:ws.length≤9223372036854775807) (hxl0:xs.length≤9223372036854775807):CC (MR op ws xs nums):=by
 refine ah.vc (V:=TT 2 (CS ((nums.length:Int)=2) (TT 3 ((True∧(!decide ((nums.length:Int)=2))=false)∧TT 6 (CN ((xs.length:Int)=(ws.length:Int)) (TT 4 (((0:Int)=(dZ op ws xs nums)∧(1:Int)=(ib op ws xs nums)∧True)∧(True∧True∧True))) (TT 3 (IX 0 nums.length∧TT 2 (IX 1 nums.length∧TT 4 (CS (A6 op ws=true) (TT 2 (CC (Gb op ws xs (nums.getD 0 0) (nums.getD 1 0))∧TT 10 (CB (!(ay (bu op ws (nums.getD 0 0) (nums.getD 1 0)))) (TT 4 (((0:Int)=(dZ op ws xs nums)∧(1:Int)=(ib op ws xs nums)∧True)∧(True∧True∧True))) (TT 3 (GO (rQ op ws xs nums) 0 (∀i,(rQ op ws xs nums).inv i→TT 1 (CD ((i:Int)<(xs.length:Int)) (TT 1 (IX (i:Int) xs.length∧TT 3 (CS ((xs.getD i 0)<0) (TT 2 ((True∧(decide ((xs.getD i 0)<0))=true)∧TT 12 (((0:Int)=(dZ op ws xs nums)∧(1:Int)=(ib op ws xs nums)∧True)∧(True∧True∧True)))) (TT 2 ((True∧(decide ((xs.getD i 0)<0))=false)∧TT 3 (IX (i:Int) ws.length∧TT 1 (CC (zp (ws.getD i 0))∧TT 2 (CD ((xs.getD i 0)>(an (ws.getD i 0))) (TT 4 (((0:Int)=(dZ op ws xs nums)∧(1:Int)=(ib op ws xs nums)∧True)∧(True∧True∧True))) (W6 ((i+1:Nat):Int)∧TT 1 (AG (rQ op ws xs nums) i (i+1))))))))))) (TT 3 (GC (cV op ws xs (nums.getD 0 0) (nums.getD 1 0))∧TT 4 (((pP op ws xs (nums.getD 0 0) (nums.getD 1 0))=(dZ op ws xs nums)∧(0:Int)=(ib op ws xs nums)∧True)∧(True∧True∧True))))))))))) (TT 2 (CC (Gc op ws xs (nums.getD 0 0) (nums.getD 1 0))∧TT 14 (((0:Int)=(dZ op ws xs nums)∧(1:Int)=(ib op ws xs nums)∧True)∧(True∧True∧True))))))))))) (TT 3 ((True∧(!decide ((nums.length:Int)=2))=true)∧TT 10 (((0:Int)=(dZ op ws xs nums)∧(1:Int)=(ib op ws xs nums)∧True)∧(True∧True∧True)))))) (.s 1 ((nums.length:Int)=2) (.w 1 [(3,.val (dB false))]<|.b 25 (.e) (.s 4 (A6 op ws=true) (.w 4 [(2,(Gb op ws xs (nums.getD 0 0) (nums.getD 1 0)).O)]<|.b 43 (.e) (.l (rQ op ws xs nums) 0 (fun i=>.b 47 (.s 10 ((xs.getD i 0)<0) (.w 10 [(2,.val (dB true))]<|.e) (.w 10 [(2,.val (dB false)),(8,(zp (ws.getD i 0)).O)]<|.b 61 (.e) (.w 12 [(0,.val (i6 ((i+1:Nat):Int)))]<|.e))) (.w 13 [(3,.callg none false (i6 (pP op ws xs (nums.getD 0 0) (nums.getD 1 0))))]<|.e)))) (.w 4 [(2,(Gc op ws xs (nums.getD 0 0) (nums.getD 1 0)).O)]<|.e))) (.w 1 [(3,.val (dB true))]<|.e)) Tryz.func104 rfl rfl rfl (by kernel_rfl) ?_
 refine tt ⟨fun hs0=>?_,fun hs0=>?_⟩
 · refine tt ⟨(nF hs0),tt (cn (fun hc25=>?_) (fun hc25=>?_))⟩
   · refine tt ⟨⟨?_,?_,oK⟩,⟨oK,oK,oK⟩⟩
     all_goals (first | exact(aW (rG (by omega))).1.symm | exact(aW (rG (by omega))).2.symm | exact(aW (rH (by omega))).1.symm | exact(aW (rH (by omega))).2.symm | exact(aW (ci (cD hb))).1.symm | exact(aW (ci (cD hb))).2.symm | exact(aW (ci (cE (by simpa using hc43)))).1.symm | exact(aW (ci (cE (by simpa using hc43)))).2.symm | exact(aW (jO (i:=i) (by omega) (by omega))).1.symm | exact(aW (jO (i:=i) (by omega) (by omega))).2.symm | exact(e9 hl2 hxl hok hin).1.symm | exact(e9 hl2 hxl hok hin).2.symm)
   · refine tt ⟨ix,tt ⟨ix,tt ⟨fun hs1=>?_,fun hs1=>?_⟩⟩⟩
     · have hb:=hs1
       refine tt ⟨(yc op ws xs (nums.getD 0 0) (nums.getD 1 0) hwl hb),tt ⟨fun hc43=>?_,fun hc43=>?_⟩⟩
       · refine tt ⟨⟨?_,?_,oK⟩,⟨oK,oK,oK⟩⟩
         all_goals (first | exact(aW (rG (by omega))).1.symm | exact(aW (rG (by omega))).2.symm | exact(aW (rH (by omega))).1.symm | exact(aW (rH (by omega))).2.symm | exact(aW (ci (cD hb))).1.symm | exact(aW (ci (cD hb))).2.symm | exact(aW (ci (cE (by simpa using hc43)))).1.symm | exact(aW (ci (cE (by simpa using hc43)))).2.symm | exact(aW (jO (i:=i) (by omega) (by omega))).1.symm | exact(aW (jO (i:=i) (by omega) (by omega))).2.symm | exact(e9 hl2 hxl hok hin).1.symm | exact(e9 hl2 hxl hok hin).2.symm)
       · refine tt ?_
         have hok:=qG hb (by simpa using hc43)
         have hl2:nums.length=2:=by omega
         have hxl:xs.length=ws.length:=by omega
         refine⟨rfl,⟨by omega,fun j hj=>by omega⟩,?_⟩
         intro i hinv
         obtain⟨hi,hall⟩:=hinv
         refine tt (cd (fun hc47=>?_) (fun hc47=>?_))
         · refine tt ⟨ix,tt ⟨fun hs2=>?_,fun hs2=>?_⟩⟩
           · refine tt ⟨(vT hs2),tt ⟨⟨?_,?_,oK⟩,⟨oK,oK,oK⟩⟩⟩
             all_goals (first | exact(aW (rG (by omega))).1.symm | exact(aW (rG (by omega))).2.symm | exact(aW (rH (by omega))).1.symm | exact(aW (rH (by omega))).2.symm | exact(aW (ci (cD hb))).1.symm | exact(aW (ci (cD hb))).2.symm | exact(aW (ci (cE (by simpa using hc43)))).1.symm | exact(aW (ci (cE (by simpa using hc43)))).2.symm | exact(aW (jO (i:=i) (by omega) (by omega))).1.symm | exact(aW (jO (i:=i) (by omega) (by omega))).2.symm | exact(e9 hl2 hxl hok hin).1.symm | exact(e9 hl2 hxl hok hin).2.symm)
           · refine tt ⟨(vF hs2),tt ⟨ix,tt ⟨(u5 (ws.getD i 0)),tt (cd (fun hc61=>?_) (fun hc61=>?_))⟩⟩⟩
             · refine tt ⟨⟨?_,?_,oK⟩,⟨oK,oK,oK⟩⟩
               all_goals (first | exact(aW (rG (by omega))).1.symm | exact(aW (rG (by omega))).2.symm | exact(aW (rH (by omega))).1.symm | exact(aW (rH (by omega))).2.symm | exact(aW (ci (cD hb))).1.symm | exact(aW (ci (cD hb))).2.symm | exact(aW (ci (cE (by simpa using hc43)))).1.symm | exact(aW (ci (cE (by simpa using hc43)))).2.symm | exact(aW (jO (i:=i) (by omega) (by omega))).1.symm | exact(aW (jO (i:=i) (by omega) (by omega))).2.symm | exact(e9 hl2 hxl hok hin).1.symm | exact(e9 hl2 hxl hok hin).2.symm)
             · refine⟨w6,tt ⟨(i+1),rfl,?_,(?_:xs.length-(i+1)<xs.length-i)⟩⟩
               · exact⟨by omega,bD hall ⟨by omega,by omega⟩⟩
               · omega
         · have hin:F6 ws xs=true:=HK (fun j hj=>hall j (by omega))
           refine tt ⟨(OH op ws xs _ _ hok hxl hin),tt ⟨⟨?_,?_,oK⟩,⟨oK,oK,oK⟩⟩⟩
           all_goals (first | exact(aW (rG (by omega))).1.symm | exact(aW (rG (by omega))).2.symm | exact(aW (rH (by omega))).1.symm | exact(aW (rH (by omega))).2.symm | exact(aW (ci (cD hb))).1.symm | exact(aW (ci (cD hb))).2.symm | exact(aW (ci (cE (by simpa using hc43)))).1.symm | exact(aW (ci (cE (by simpa using hc43)))).2.symm | exact(aW (jO (i:=i) (by omega) (by omega))).1.symm | exact(aW (jO (i:=i) (by omega) (by omega))).2.symm | exact(e9 hl2 hxl hok hin).1.symm | exact(e9 hl2 hxl hok hin).2.symm)
     · have hb:=hs1
       refine tt ⟨(yd op ws xs (nums.getD 0 0) (nums.getD 1 0) hwl (Bool.eq_false_iff.2 hb)),tt ⟨⟨?_,?_,oK⟩,⟨oK,oK,oK⟩⟩⟩
       all_goals (first | exact(aW (rG (by omega))).1.symm | exact(aW (rG (by omega))).2.symm | exact(aW (rH (by omega))).1.symm | exact(aW (rH (by omega))).2.symm | exact(aW (ci (cD hb))).1.symm | exact(aW (ci (cD hb))).2.symm | exact(aW (ci (cE (by simpa using hc43)))).1.symm | exact(aW (ci (cE (by simpa using hc43)))).2.symm | exact(aW (jO (i:=i) (by omega) (by omega))).1.symm | exact(aW (jO (i:=i) (by omega) (by omega))).2.symm | exact(e9 hl2 hxl hok hin).1.symm | exact(e9 hl2 hxl hok hin).2.symm)
 · refine tt ⟨(nT hs0),tt ⟨⟨?_,?_,oK⟩,⟨oK,oK,oK⟩⟩⟩
   all_goals (first | exact(aW (rG (by omega))).1.symm | exact(aW (rG (by omega))).2.symm | exact(aW (rH (by omega))).1.symm | exact(aW (rH (by omega))).2.symm | exact(aW (ci (cD hb))).1.symm | exact(aW (ci (cD hb))).2.symm | exact(aW (ci (cE (by simpa using hc43)))).1.symm | exact(aW (ci (cE (by simpa using hc43)))).2.symm | exact(aW (jO (i:=i) (by omega) (by omega))).1.symm | exact(aW (jO (i:=i) (by omega) (by omega))).2.symm | exact(e9 hl2 hxl hok hin).1.symm | exact(e9 hl2 hxl hok hin).2.symm)
end Go.Proofs.YtckgpflobhpnpaaGreat
