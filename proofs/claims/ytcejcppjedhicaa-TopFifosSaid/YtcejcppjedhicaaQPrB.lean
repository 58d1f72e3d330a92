/- Parts of a proof. -/
import Derived.Test.YtcejcppjedhicaaQVbB
namespace Go.Proofs.Ytcejcppjedhicaa
open Go.RowKit
set_option linter.unusedVariables false
set_option linter.unusedSimpArgs false
abbrev dH:ak:=(.var 161 [(i6 0),(.v .nilf),(.v .nilf)])
abbrev aX (op:Int):D:=(i6 (bD op))
abbrev cm:D:=(.ptr 1 0 0 0)
abbrev cA:D:=(.ptr 2 0 0 0)
set_option maxRecDepth 100000
def eG:List (Int×Value):=[(2,.agg #[.int .i64 1,.func (.func 70) #[] #[],.func (.func 71) #[] #[]]),(3,.agg #[.int .i64 2,.func (.func 73) #[] #[],.func (.func 74) #[] #[]]),(4,.agg #[.int .i64 2,.func (.func 73) #[] #[],.func (.func 75) #[] #[]]),(5,.agg #[.int .i64 2,.func (.func 73) #[] #[],.func (.func 76) #[] #[]]),(6,.agg #[.int .i64 2,.func (.func 73) #[] #[],.func (.func 77) #[] #[]]),(7,.agg #[.int .i64 2,.func (.func 73) #[] #[],.func (.func 78) #[] #[]]),(8,.agg #[.int .i64 2,.func (.func 79) #[] #[],.func (.func 80) #[] #[]]),(9,.agg #[.int .i64 2,.func (.func 79) #[] #[],.func (.func 82) #[] #[]])]
set_option maxHeartbeats 800000 in
theorem xx (w:World):Calls Try.prog 65 #[] w (fun e w'=>∃arr:Array MapEntry,e=.returned (.map (some w.heap.size))∧w'=w.alloc (.map arr 8)∧arr.toList.map (fun e=>(e.key,e.val))=eG.map (fun e=>(Value.int .i64 e.1,e.2))):=by
  go_enter Try.func65,Try.ntmps65
  go_wp2_with (first | (rw[rN]) | (rw[t0 Try.underlying169 Try.underlying3 (by rfl)]))
  go_ret
  exact⟨_,rfl,rfl,rfl⟩
abbrev HB:Ct:=⟨65,[],false,.v (.mp eG)⟩
theorem mA:CC HB:=ap.of_map xx
def fd:List (Int×Value):=[(1,.agg #[.int .i64 0,.func (.func 83) #[] #[],.func (.func 84) #[] #[]]),(10,.agg #[.int .i64 3,.func (.func 85) #[] #[],.func (.func 86) #[] #[]]),(11,.agg #[.int .i64 2,.func (.func 87) #[] #[],.func (.func 88) #[] #[]]),(12,.agg #[.int .i64 1,.func (.func 89) #[] #[],.func (.func 90) #[] #[]]),(13,.agg #[.int .i64 1,.func (.func 91) #[] #[],.func (.func 92) #[] #[]])]
set_option maxHeartbeats 800000 in
theorem xy (w:World):Calls Try.prog 66 #[] w (fun e w'=>∃arr:Array MapEntry,e=.returned (.map (some w.heap.size))∧w'=w.alloc (.map arr 5)∧arr.toList.map (fun e=>(e.key,e.val))=fd.map (fun e=>(Value.int .i64 e.1,e.2))):=by
  go_enter Try.func66,Try.ntmps66
  go_wp2_with (first | (rw[rN]) | (rw[t0 Try.underlying169 Try.underlying3 (by rfl)]))
  go_ret
  exact⟨_,rfl,rfl,rfl⟩
abbrev JB:Ct:=⟨66,[],false,.v (.mp fd)⟩
theorem qR:CC JB:=ap.of_map xy
def dz (op:Int):Nat :=
  if op=1 then 83 else
  if op=2 then 70 else
  if op=3 then 73 else
  if op=4 then 73 else
  if op=5 then 73 else
  if op=6 then 73 else
  if op=7 then 73 else
  if op=8 then 79 else
  if op=9 then 79 else
  if op=10 then 85 else
  if op=11 then 87 else
  if op=12 then 89 else
  if op=13 then 91 else 0
def dA (op:Int):Nat :=
  if op=1 then 84 else
  if op=2 then 71 else
  if op=3 then 74 else
  if op=4 then 75 else
  if op=5 then 76 else
  if op=6 then 77 else
  if op=7 then 78 else
  if op=8 then 80 else
  if op=9 then 82 else
  if op=10 then 86 else
  if op=11 then 88 else
  if op=12 then 90 else
  if op=13 then 92 else 0
abbrev cW (op:Int) (ws xs:List Int) (k w:Int):Ct:=⟨dz op,[(.agg [(LI ws),(LI xs),(i6 k),(i6 w)])],false,i6 (bj op ws k w)⟩
abbrev cV (op:Int) (ws xs:List Int) (k w:Int):Ct:=⟨dA op,[(.agg [(LI ws),(LI xs),(i6 k),(i6 w)])],false,i6 (nr op ws xs k w)⟩
theorem t3 {op:Int} {ws:List Int} (h:yU op ws=true):op=1∨op=2∨op=3∨op=4∨op=5∨op=6∨op=7∨op=8∨op=9∨op=10∨op=11∨op=12∨op=13:=by
  have h1:=(xw h).1
  by_cases hr:op<1∨13<op
  · have:bD op=-1:=by unfold bD;rw[NQ (by omega),NQ (by omega),NQ (by omega),NQ (by omega)]
    omega
  · omega
theorem IL (op:Int) (ws xs:List Int) (k w:Int) (h:yU op ws=true):GC (cW op ws xs k w):=by
  obtain⟨h1,hf⟩:=xw h
  rcases t3 h with rfl | rfl | rfl | rfl | rfl | rfl | rfl | rfl | rfl | rfl | rfl | rfl | rfl
  · (have hl:(ws.length:Int)=0:=h1);exact⟨by kernel_rfl,DK ws xs k w (by omega) hf⟩
  · (have hl:(ws.length:Int)=1:=h1);exact⟨by kernel_rfl,Fv ws xs k w (by omega) hf⟩
  · (have hl:(ws.length:Int)=2:=h1);exact⟨by kernel_rfl,jp ws xs k w (by omega) hf⟩
  · (have hl:(ws.length:Int)=2:=h1);exact⟨by kernel_rfl,jp ws xs k w (by omega) hf⟩
  · (have hl:(ws.length:Int)=2:=h1);exact⟨by kernel_rfl,jp ws xs k w (by omega) hf⟩
  · (have hl:(ws.length:Int)=2:=h1);exact⟨by kernel_rfl,jp ws xs k w (by omega) hf⟩
  · (have hl:(ws.length:Int)=2:=h1);exact⟨by kernel_rfl,jp ws xs k w (by omega) hf⟩
  · (have hl:(ws.length:Int)=2:=h1);exact⟨by kernel_rfl,Fw ws xs k w (by omega) hf⟩
  · (have hl:(ws.length:Int)=2:=h1);exact⟨by kernel_rfl,Fw ws xs k w (by omega) hf⟩
  · (have hl:(ws.length:Int)=3:=h1);exact⟨by kernel_rfl,Hy ws xs k w (by omega) hf⟩
  · (have hl:(ws.length:Int)=2:=h1);exact⟨by kernel_rfl,Hz ws xs k w (by omega) hf⟩
  · (have hl:(ws.length:Int)=1:=h1);exact⟨by kernel_rfl,DL ws xs k w (by omega) hf⟩
  · (have hl:(ws.length:Int)=1:=h1);exact⟨by kernel_rfl,HA ws xs k w (by omega) hf⟩
theorem Li (op:Int) (ws xs:List Int) (k w:Int) (h:nq op ws k w=true) (hx:xs.length=ws.length) (hin:DI ws xs=true):GC (cV op ws xs k w):=by
  obtain⟨h1,hf,h3⟩:=qQ h
  have hb:yU op ws=true:=by unfold yU;rw[Og h1,hf];rfl
  rcases t3 hb with rfl | rfl | rfl | rfl | rfl | rfl | rfl | rfl | rfl | rfl | rfl | rfl | rfl
  · (have hl:(ws.length:Int)=0:=h1);exact⟨by kernel_rfl,Fx ws xs k w ⟨by omega,hf,hx,hin⟩⟩
  · (have hl:(ws.length:Int)=1:=h1);exact⟨by kernel_rfl,Jt ws xs k w ⟨by omega,hf,hx,hin⟩⟩
  · (have hl:(ws.length:Int)=2:=h1);exact⟨by kernel_rfl,Ju ws xs k w ⟨by omega,hf,hx,hin⟩⟩
  · (have hl:(ws.length:Int)=2:=h1);exact⟨by kernel_rfl,Lf ws xs k w ⟨by omega,hf,hx,hin⟩⟩
  · (have hl:(ws.length:Int)=2:=h1);exact⟨by kernel_rfl,Jv ws xs k w ⟨by omega,hf,hx,hin⟩⟩
  · (have hl:(ws.length:Int)=2:=h1);exact⟨by kernel_rfl,Jw ws xs k w ⟨by omega,hf,hx,hin⟩⟩
  · (have hl:(ws.length:Int)=2:=h1);exact⟨by kernel_rfl,Jx ws xs k w ⟨by omega,hf,hx,hin⟩⟩
  · (have hl:(ws.length:Int)=2:=h1);exact⟨by kernel_rfl,Lg ws xs k w ⟨by omega,hf,hx,hin⟩⟩
  · (have hl:(ws.length:Int)=2:=h1);exact⟨by kernel_rfl,Lh ws xs k w ⟨by omega,hf,hx,hin⟩⟩
  · (have hl:(ws.length:Int)=3:=h1);exact⟨by kernel_rfl,Jz ws xs k w ⟨by omega,hf,hx,hin⟩ (Cl h)⟩
  · (have hl:(ws.length:Int)=2:=h1);exact⟨by kernel_rfl,JA ws xs k w ⟨by omega,hf,hx,hin⟩⟩
  · (have hl:(ws.length:Int)=1:=h1);exact⟨by kernel_rfl,Fy ws xs k w ⟨by omega,hf,hx,hin⟩ (Cm h)⟩
  · (have hl:(ws.length:Int)=1:=h1);exact⟨by kernel_rfl,Jy ws xs k w ⟨by omega,hf,hx,hin⟩⟩
theorem t4 {op:Int} (h:op=2∨op=3∨op=4∨op=5∨op=6∨op=7∨op=8∨op=9):∃(j:Nat) (e:Int×Value),eG[j]?=some e∧op=e.1∧(∀e'∈eG.take j,op≠e'.1)∧qp (D.ofVal e.2) (.agg [(aX op),(.fn (.func (dz op)) [] []),(.fn (.func (dA op)) [] [])]):=by
  rcases h with rfl | rfl | rfl | rfl | rfl | rfl | rfl | rfl
  · exact⟨0,_,rfl,rfl,by decide,⟨rfl,rfl,rfl,oK⟩⟩
  · exact⟨1,_,rfl,rfl,by decide,⟨rfl,rfl,rfl,oK⟩⟩
  · exact⟨2,_,rfl,rfl,by decide,⟨rfl,rfl,rfl,oK⟩⟩
  · exact⟨3,_,rfl,rfl,by decide,⟨rfl,rfl,rfl,oK⟩⟩
  · exact⟨4,_,rfl,rfl,by decide,⟨rfl,rfl,rfl,oK⟩⟩
  · exact⟨5,_,rfl,rfl,by decide,⟨rfl,rfl,rfl,oK⟩⟩
  · exact⟨6,_,rfl,rfl,by decide,⟨rfl,rfl,rfl,oK⟩⟩
  · exact⟨7,_,rfl,rfl,by decide,⟨rfl,rfl,rfl,oK⟩⟩
theorem t5 {op:Int} (h:¬(op=2∨op=3∨op=4∨op=5∨op=6∨op=7∨op=8∨op=9)):∀e'∈eG,op≠e'.1:=by
  intro e' TD
  simp only[eG,OB,List.not_mem_nil,or_false]at TD
  rcases TD with rfl | rfl | rfl | rfl | rfl | rfl | rfl | rfl<;>simp only[ne_eq]<;>omega
theorem t6 {op:Int} (h:op=1∨op=10∨op=11∨op=12∨op=13):∃(j:Nat) (e:Int×Value),fd[j]?=some e∧op=e.1∧(∀e'∈fd.take j,op≠e'.1)∧qp (D.ofVal e.2) (.agg [(aX op),(.fn (.func (dz op)) [] []),(.fn (.func (dA op)) [] [])]):=by
  rcases h with rfl | rfl | rfl | rfl | rfl
  · exact⟨0,_,rfl,rfl,by decide,⟨rfl,rfl,rfl,oK⟩⟩
  · exact⟨1,_,rfl,rfl,by decide,⟨rfl,rfl,rfl,oK⟩⟩
  · exact⟨2,_,rfl,rfl,by decide,⟨rfl,rfl,rfl,oK⟩⟩
  · exact⟨3,_,rfl,rfl,by decide,⟨rfl,rfl,rfl,oK⟩⟩
  · exact⟨4,_,rfl,rfl,by decide,⟨rfl,rfl,rfl,oK⟩⟩
theorem AO {op:Int} (h:¬(op=1∨op=10∨op=11∨op=12∨op=13)):∀e'∈fd,op≠e'.1:=by
  intro e' TD
  simp only[fd,OB,List.not_mem_nil,or_false]at TD
  rcases TD with rfl | rfl | rfl | rfl | rfl<;>simp only[ne_eq]<;>omega
abbrev DN (op:Int) (ws xs:List Int) (k w:Int):Ct:=⟨59,[(i6 op),(.agg [(LI ws),(LI xs),(i6 k),(i6 w)])],true,(.tup [(.agg [(aX op),(.fn (.func (dz op)) [] []),(.fn (.func (dA op)) [] [])]),(i6 (bj op ws k w)),(dB (aB (bj op ws k w)))])⟩
def lz (op:Int) (ws:List Int) (xs:List Int) (k:Int) (w:Int):St:=⟨[(4,cm),(7,cA),(9,(i6 (bj op ws k w)))],[(.var 158 [(LI ws),(LI xs),(i6 k),(i6 w)]),dH,(.var 161 [(aX op),(.fn (.func (dz op)) [] []),(.fn (.func (dA op)) [] [])])]⟩
def rO (op:Int) (ws:List Int) (xs:List Int) (k:Int) (w:Int):St:=⟨[(4,cm),(7,cA),(9,(i6 (bj op ws k w))),(44,(.agg [(aX op),(.fn (.func (dz op)) [] []),(.fn (.func (dA op)) [] [])]))],[(.var 158 [(LI ws),(LI xs),(i6 k),(i6 w)]),dH,(.var 161 [(aX op),(.fn (.func (dz op)) [] []),(.fn (.func (dA op)) [] [])])]⟩
def rP (op:Int) (ws:List Int) (xs:List Int) (k:Int) (w:Int):St:=⟨[(4,cm),(7,cA),(9,(i6 (bj op ws k w))),(45,(i6 (bj op ws k w)))],[(.var 158 [(LI ws),(LI xs),(i6 k),(i6 w)]),dH,(.var 161 [(aX op),(.fn (.func (dz op)) [] []),(.fn (.func (dA op)) [] [])])]⟩
def rQ (op:Int) (ws:List Int) (xs:List Int) (k:Int) (w:Int):St:=⟨[(4,cm),(7,cA),(9,(i6 (bj op ws k w))),(46,(i6 (bj op ws k w)))],[(.var 158 [(LI ws),(LI xs),(i6 k),(i6 w)]),dH,(.var 161 [(aX op),(.fn (.func (dz op)) [] []),(.fn (.func (dA op)) [] [])])]⟩
def lC (op:Int) (ws:List Int) (xs:List Int) (k:Int) (w:Int):St:=⟨[(4,cm),(7,cA),(9,(i6 (bj op ws k w))),(44,(.agg [(aX op),(.fn (.func (dz op)) [] []),(.fn (.func (dA op)) [] [])])),(45,(i6 (bj op ws k w)))],[(.var 158 [(LI ws),(LI xs),(i6 k),(i6 w)]),dH,(.var 161 [(aX op),(.fn (.func (dz op)) [] []),(.fn (.func (dA op)) [] [])])]⟩
def lD (op:Int) (ws:List Int) (xs:List Int) (k:Int) (w:Int):St:=⟨[(4,cm),(7,cA),(9,(i6 (bj op ws k w))),(44,(.agg [(aX op),(.fn (.func (dz op)) [] []),(.fn (.func (dA op)) [] [])])),(46,(i6 (bj op ws k w)))],[(.var 158 [(LI ws),(LI xs),(i6 k),(i6 w)]),dH,(.var 161 [(aX op),(.fn (.func (dz op)) [] []),(.fn (.func (dA op)) [] [])])]⟩
def lF (op:Int) (ws:List Int) (xs:List Int) (k:Int) (w:Int):St:=⟨[(4,cm),(7,cA),(9,(i6 (bj op ws k w))),(45,(i6 (bj op ws k w))),(46,(i6 (bj op ws k w)))],[(.var 158 [(LI ws),(LI xs),(i6 k),(i6 w)]),dH,(.var 161 [(aX op),(.fn (.func (dz op)) [] []),(.fn (.func (dA op)) [] [])])]⟩
def rR (op:Int) (ws:List Int) (xs:List Int) (k:Int) (w:Int):St:=⟨[(4,cm),(7,cA),(9,(i6 (bj op ws k w))),(46,(i6 (bj op ws k w))),(47,(dB (aB (bj op ws k w))))],[(.var 158 [(LI ws),(LI xs),(i6 k),(i6 w)]),dH,(.var 161 [(aX op),(.fn (.func (dz op)) [] []),(.fn (.func (dA op)) [] [])])]⟩
def iP (op:Int) (ws:List Int) (xs:List Int) (k:Int) (w:Int):St:=⟨[(4,cm),(7,cA),(9,(i6 (bj op ws k w))),(44,(.agg [(aX op),(.fn (.func (dz op)) [] []),(.fn (.func (dA op)) [] [])])),(45,(i6 (bj op ws k w))),(46,(i6 (bj op ws k w)))],[(.var 158 [(LI ws),(LI xs),(i6 k),(i6 w)]),dH,(.var 161 [(aX op),(.fn (.func (dz op)) [] []),(.fn (.func (dA op)) [] [])])]⟩
def lG (op:Int) (ws:List Int) (xs:List Int) (k:Int) (w:Int):St:=⟨[(4,cm),(7,cA),(9,(i6 (bj op ws k w))),(44,(.agg [(aX op),(.fn (.func (dz op)) [] []),(.fn (.func (dA op)) [] [])])),(46,(i6 (bj op ws k w))),(47,(dB (aB (bj op ws k w))))],[(.var 158 [(LI ws),(LI xs),(i6 k),(i6 w)]),dH,(.var 161 [(aX op),(.fn (.func (dz op)) [] []),(.fn (.func (dA op)) [] [])])]⟩
def jR (op:Int) (ws:List Int) (xs:List Int) (k:Int) (w:Int):St:=⟨[(4,cm),(7,cA),(9,(i6 (bj op ws k w))),(45,(i6 (bj op ws k w))),(46,(i6 (bj op ws k w))),(47,(dB (aB (bj op ws k w))))],[(.var 158 [(LI ws),(LI xs),(i6 k),(i6 w)]),dH,(.var 161 [(aX op),(.fn (.func (dz op)) [] []),(.fn (.func (dA op)) [] [])])]⟩
def gR (op:Int) (ws:List Int) (xs:List Int) (k:Int) (w:Int):St:=⟨[(4,cm),(7,cA),(9,(i6 (bj op ws k w))),(44,(.agg [(aX op),(.fn (.func (dz op)) [] []),(.fn (.func (dA op)) [] [])])),(45,(i6 (bj op ws k w))),(46,(i6 (bj op ws k w))),(47,(dB (aB (bj op ws k w))))],[(.var 158 [(LI ws),(LI xs),(i6 k),(i6 w)]),dH,(.var 161 [(aX op),(.fn (.func (dz op)) [] []),(.fn (.func (dA op)) [] [])])]⟩
def pD (op:Int) (ws:List Int) (xs:List Int) (k:Int) (w:Int):St:=⟨[(4,cm),(7,cA),(9,(i6 (bj op ws k w))),(44,(.agg [(aX op),(.fn (.func (dz op)) [] []),(.fn (.func (dA op)) [] [])])),(46,(i6 (bj op ws k w))),(47,(dB (aB (bj op ws k w))))],[(.var 158 [(LI ws),(LI xs),(i6 k),(i6 w)]),(.var 161 [(aX op),(.fn (.func (dz op)) [] []),(.fn (.func (dA op)) [] [])]),(.var 161 [(aX op),(.fn (.func (dz op)) [] []),(.fn (.func (dA op)) [] [])])]⟩
def jS (op:Int) (ws:List Int) (xs:List Int) (k:Int) (w:Int):St:=⟨[(4,cm),(7,cA),(9,(i6 (bj op ws k w))),(44,(.agg [(aX op),(.fn (.func (dz op)) [] []),(.fn (.func (dA op)) [] [])])),(45,(i6 (bj op ws k w))),(46,(i6 (bj op ws k w))),(47,(dB (aB (bj op ws k w))))],[(.var 158 [(LI ws),(LI xs),(i6 k),(i6 w)]),(.var 161 [(aX op),(.fn (.func (dz op)) [] []),(.fn (.func (dA op)) [] [])]),(.var 161 [(aX op),(.fn (.func (dz op)) [] []),(.fn (.func (dA op)) [] [])])]⟩
def pE (op:Int) (ws:List Int) (xs:List Int) (k:Int) (w:Int):St:=⟨[(4,cm),(5,(i6 (bj op ws k w))),(7,cA),(9,(i6 (bj op ws k w))),(44,(.agg [(aX op),(.fn (.func (dz op)) [] []),(.fn (.func (dA op)) [] [])])),(45,(i6 (bj op ws k w))),(46,(i6 (bj op ws k w))),(47,(dB (aB (bj op ws k w))))],[(.var 158 [(LI ws),(LI xs),(i6 k),(i6 w)]),(.var 161 [(aX op),(.fn (.func (dz op)) [] []),(.fn (.func (dA op)) [] [])]),(.var 161 [(aX op),(.fn (.func (dz op)) [] []),(.fn (.func (dA op)) [] [])])]⟩
def pF (op:Int) (ws:List Int) (xs:List Int) (k:Int) (w:Int):St:=⟨[(4,cm),(5,(i6 (bj op ws k w))),(6,(dB (aB (bj op ws k w))))],[(.var 158 [(LI ws),(LI xs),(i6 k),(i6 w)]),(.var 161 [(aX op),(.fn (.func (dz op)) [] []),(.fn (.func (dA op)) [] [])]),(.var 161 [(aX op),(.fn (.func (dz op)) [] []),(.fn (.func (dA op)) [] [])])]⟩
def jT (op:Int) (ws:List Int) (xs:List Int) (k:Int) (w:Int):St:=⟨[(4,cm),(7,cA),(9,(i6 (bj op ws k w)))],[(.var 158 [(LI ws),(LI xs),(i6 k),(i6 w)]),dH,(.var 161 [(aX op),(.fn (.func (dz op)) [] []),(.fn (.func (dA op)) [] [])])]⟩
def pG (op:Int) (ws:List Int) (xs:List Int) (k:Int) (w:Int):St:=⟨[(4,cm),(7,cA),(9,(i6 (bj op ws k w))),(44,(.agg [(aX op),(.fn (.func (dz op)) [] []),(.fn (.func (dA op)) [] [])]))],[(.var 158 [(LI ws),(LI xs),(i6 k),(i6 w)]),dH,(.var 161 [(aX op),(.fn (.func (dz op)) [] []),(.fn (.func (dA op)) [] [])])]⟩
def pH (op:Int) (ws:List Int) (xs:List Int) (k:Int) (w:Int):St:=⟨[(4,cm),(7,cA),(9,(i6 (bj op ws k w))),(45,(i6 (bj op ws k w)))],[(.var 158 [(LI ws),(LI xs),(i6 k),(i6 w)]),dH,(.var 161 [(aX op),(.fn (.func (dz op)) [] []),(.fn (.func (dA op)) [] [])])]⟩
def pI (op:Int) (ws:List Int) (xs:List Int) (k:Int) (w:Int):St:=⟨[(4,cm),(7,cA),(9,(i6 (bj op ws k w))),(46,(i6 (bj op ws k w)))],[(.var 158 [(LI ws),(LI xs),(i6 k),(i6 w)]),dH,(.var 161 [(aX op),(.fn (.func (dz op)) [] []),(.fn (.func (dA op)) [] [])])]⟩
def jU (op:Int) (ws:List Int) (xs:List Int) (k:Int) (w:Int):St:=⟨[(4,cm),(7,cA),(9,(i6 (bj op ws k w))),(44,(.agg [(aX op),(.fn (.func (dz op)) [] []),(.fn (.func (dA op)) [] [])])),(45,(i6 (bj op ws k w)))],[(.var 158 [(LI ws),(LI xs),(i6 k),(i6 w)]),dH,(.var 161 [(aX op),(.fn (.func (dz op)) [] []),(.fn (.func (dA op)) [] [])])]⟩
def jV (op:Int) (ws:List Int) (xs:List Int) (k:Int) (w:Int):St:=⟨[(4,cm),(7,cA),(9,(i6 (bj op ws k w))),(44,(.agg [(aX op),(.fn (.func (dz op)) [] []),(.fn (.func (dA op)) [] [])])),(46,(i6 (bj op ws k w)))],[(.var 158 [(LI ws),(LI xs),(i6 k),(i6 w)]),dH,(.var 161 [(aX op),(.fn (.func (dz op)) [] []),(.fn (.func (dA op)) [] [])])]⟩
def jW (op:Int) (ws:List Int) (xs:List Int) (k:Int) (w:Int):St:=⟨[(4,cm),(7,cA),(9,(i6 (bj op ws k w))),(45,(i6 (bj op ws k w))),(46,(i6 (bj op ws k w)))],[(.var 158 [(LI ws),(LI xs),(i6 k),(i6 w)]),dH,(.var 161 [(aX op),(.fn (.func (dz op)) [] []),(.fn (.func (dA op)) [] [])])]⟩
def pJ (op:Int) (ws:List Int) (xs:List Int) (k:Int) (w:Int):St:=⟨[(4,cm),(7,cA),(9,(i6 (bj op ws k w))),(46,(i6 (bj op ws k w))),(47,(dB (aB (bj op ws k w))))],[(.var 158 [(LI ws),(LI xs),(i6 k),(i6 w)]),dH,(.var 161 [(aX op),(.fn (.func (dz op)) [] []),(.fn (.func (dA op)) [] [])])]⟩
def gT (op:Int) (ws:List Int) (xs:List Int) (k:Int) (w:Int):St:=⟨[(4,cm),(7,cA),(9,(i6 (bj op ws k w))),(44,(.agg [(aX op),(.fn (.func (dz op)) [] []),(.fn (.func (dA op)) [] [])])),(45,(i6 (bj op ws k w))),(46,(i6 (bj op ws k w)))],[(.var 158 [(LI ws),(LI xs),(i6 k),(i6 w)]),dH,(.var 161 [(aX op),(.fn (.func (dz op)) [] []),(.fn (.func (dA op)) [] [])])]⟩
def jX (op:Int) (ws:List Int) (xs:List Int) (k:Int) (w:Int):St:=⟨[(4,cm),(7,cA),(9,(i6 (bj op ws k w))),(44,(.agg [(aX op),(.fn (.func (dz op)) [] []),(.fn (.func (dA op)) [] [])])),(46,(i6 (bj op ws k w))),(47,(dB (aB (bj op ws k w))))],[(.var 158 [(LI ws),(LI xs),(i6 k),(i6 w)]),dH,(.var 161 [(aX op),(.fn (.func (dz op)) [] []),(.fn (.func (dA op)) [] [])])]⟩
def i7 (op:Int) (ws:List Int) (xs:List Int) (k:Int) (w:Int):St:=⟨[(4,cm),(7,cA),(9,(i6 (bj op ws k w))),(45,(i6 (bj op ws k w))),(46,(i6 (bj op ws k w))),(47,(dB (aB (bj op ws k w))))],[(.var 158 [(LI ws),(LI xs),(i6 k),(i6 w)]),dH,(.var 161 [(aX op),(.fn (.func (dz op)) [] []),(.fn (.func (dA op)) [] [])])]⟩
def f6 (op:Int) (ws:List Int) (xs:List Int) (k:Int) (w:Int):St:=⟨[(4,cm),(7,cA),(9,(i6 (bj op ws k w))),(44,(.agg [(aX op),(.fn (.func (dz op)) [] []),(.fn (.func (dA op)) [] [])])),(45,(i6 (bj op ws k w))),(46,(i6 (bj op ws k w))),(47,(dB (aB (bj op ws k w))))],[(.var 158 [(LI ws),(LI xs),(i6 k),(i6 w)]),dH,(.var 161 [(aX op),(.fn (.func (dz op)) [] []),(.fn (.func (dA op)) [] [])])]⟩
def nO (op:Int) (ws:List Int) (xs:List Int) (k:Int) (w:Int):St:=⟨[(4,cm),(7,cA),(9,(i6 (bj op ws k w))),(44,(.agg [(aX op),(.fn (.func (dz op)) [] []),(.fn (.func (dA op)) [] [])])),(46,(i6 (bj op ws k w))),(47,(dB (aB (bj op ws k w))))],[(.var 158 [(LI ws),(LI xs),(i6 k),(i6 w)]),(.var 161 [(aX op),(.fn (.func (dz op)) [] []),(.fn (.func (dA op)) [] [])]),(.var 161 [(aX op),(.fn (.func (dz op)) [] []),(.fn (.func (dA op)) [] [])])]⟩
def i8 (op:Int) (ws:List Int) (xs:List Int) (k:Int) (w:Int):St:=⟨[(4,cm),(7,cA),(9,(i6 (bj op ws k w))),(44,(.agg [(aX op),(.fn (.func (dz op)) [] []),(.fn (.func (dA op)) [] [])])),(45,(i6 (bj op ws k w))),(46,(i6 (bj op ws k w))),(47,(dB (aB (bj op ws k w))))],[(.var 158 [(LI ws),(LI xs),(i6 k),(i6 w)]),(.var 161 [(aX op),(.fn (.func (dz op)) [] []),(.fn (.func (dA op)) [] [])]),(.var 161 [(aX op),(.fn (.func (dz op)) [] []),(.fn (.func (dA op)) [] [])])]⟩
def nP (op:Int) (ws:List Int) (xs:List Int) (k:Int) (w:Int):St:=⟨[(4,cm),(5,(i6 (bj op ws k w))),(7,cA),(9,(i6 (bj op ws k w))),(44,(.agg [(aX op),(.fn (.func (dz op)) [] []),(.fn (.func (dA op)) [] [])])),(45,(i6 (bj op ws k w))),(46,(i6 (bj op ws k w))),(47,(dB (aB (bj op ws k w))))],[(.var 158 [(LI ws),(LI xs),(i6 k),(i6 w)]),(.var 161 [(aX op),(.fn (.func (dz op)) [] []),(.fn (.func (dA op)) [] [])]),(.var 161 [(aX op),(.fn (.func (dz op)) [] []),(.fn (.func (dA op)) [] [])])]⟩
def nQ (op:Int) (ws:List Int) (xs:List Int) (k:Int) (w:Int):St:=⟨[(4,cm),(5,(i6 (bj op ws k w))),(6,(dB (aB (bj op ws k w))))],[(.var 158 [(LI ws),(LI xs),(i6 k),(i6 w)]),(.var 161 [(aX op),(.fn (.func (dz op)) [] []),(.fn (.func (dA op)) [] [])]),(.var 161 [(aX op),(.fn (.func (dz op)) [] []),(.fn (.func (dA op)) [] [])])]⟩
theorem we (op:Int) (ws xs:List Int) (k w:Int) (hw:ws.length≤9223372036854775807) (h:yU op ws=true):CC (DN op ws xs k w):=by
 obtain⟨h1,h2⟩:=xw h
 have TG:=t3 h
 refine ap.vc (V:=TT 4 (CS (op=2∨op=3∨op=4∨op=5∨op=6∨op=7∨op=8∨op=9) (CC HB∧TT 1 ((∃(j:Nat) (e:Int×Value),eG[j]?=some e∧op=e.1∧(∀e'∈eG.take j,op≠e'.1)∧qp (D.ofVal e.2) (.agg [(aX op),(.fn (.func (dz op)) [] []),(.fn (.func (dA op)) [] [])]))∧TT 18 ((True∧(!decide ((ws.length:Int)=(bD op)))=false)∧TT 2 (CC (Hx ws)∧TT 1 ((!(ws.all aB))=false∧TT 3 (GC (cW op ws xs k w)∧TT 1 ((lz op ws xs k w)=(lz op ws xs k w)∧(((sE (rO op ws xs k w) (True))∧(sE (rP op ws xs k w) (True))∧(sE (rQ op ws xs k w) (True))∧True)∧((sE (lC op ws xs k w) (True))∧(sE (lD op ws xs k w) (True))∧True)∧((sE (lC op ws xs k w) (True))∧(sE (lF op ws xs k w) (True))∧True)∧((sE (lD op ws xs k w) (True))∧(sE (lF op ws xs k w) (True))∧(sE (rR op ws xs k w) (CC (sn (bj op ws k w))))∧True)∧((sE (iP op ws xs k w) (True))∧True)∧((sE (iP op ws xs k w) (True))∧(sE (lG op ws xs k w) (CC (sn (bj op ws k w))))∧True)∧((sE (iP op ws xs k w) (True))∧(sE (jR op ws xs k w) (CC (sn (bj op ws k w))))∧True)∧((sE (lG op ws xs k w) (True))∧(sE (jR op ws xs k w) (True))∧True)∧((sE (gR op ws xs k w) (CC (sn (bj op ws k w))))∧True)∧((sE (gR op ws xs k w) (True))∧(sE (pD op ws xs k w) (True))∧True)∧((sE (gR op ws xs k w) (True))∧True)∧((sE (jS op ws xs k w) (True))∧True)∧((sE (jS op ws xs k w) (True))∧True)∧((sE (pE op ws xs k w) (True))∧True)∧((sE (pF op ws xs k w) (True))∧True)∧True∧True)∧TT 3 (((bD op)=(bD op)∧((.fn (.func (dz op)) [] []):D)=(.fn (.func (dz op)) [] [])∧((.fn (.func (dA op)) [] []):D)=(.fn (.func (dA op)) [] [])∧True)∧(bj op ws k w)=(bj op ws k w)∧(aB (bj op ws k w))=(aB (bj op ws k w))∧True)))))))) (CC HB∧TT 1 ((∀e'∈eG,op≠e'.1)∧TT 8 (CC JB∧TT 1 ((∃(j:Nat) (e:Int×Value),fd[j]?=some e∧op=e.1∧(∀e'∈fd.take j,op≠e'.1)∧qp (D.ofVal e.2) (.agg [(aX op),(.fn (.func (dz op)) [] []),(.fn (.func (dA op)) [] [])]))∧TT 15 ((True∧(!decide ((ws.length:Int)=(bD op)))=false)∧TT 2 (CC (Hx ws)∧TT 1 ((!(ws.all aB))=false∧TT 3 (GC (cW op ws xs k w)∧TT 1 ((jT op ws xs k w)=(jT op ws xs k w)∧(((sE (pG op ws xs k w) (True))∧(sE (pH op ws xs k w) (True))∧(sE (pI op ws xs k w) (True))∧True)∧((sE (jU op ws xs k w) (True))∧(sE (jV op ws xs k w) (True))∧True)∧((sE (jU op ws xs k w) (True))∧(sE (jW op ws xs k w) (True))∧True)∧((sE (jV op ws xs k w) (True))∧(sE (jW op ws xs k w) (True))∧(sE (pJ op ws xs k w) (CC (sn (bj op ws k w))))∧True)∧((sE (gT op ws xs k w) (True))∧True)∧((sE (gT op ws xs k w) (True))∧(sE (jX op ws xs k w) (CC (sn (bj op ws k w))))∧True)∧((sE (gT op ws xs k w) (True))∧(sE (i7 op ws xs k w) (CC (sn (bj op ws k w))))∧True)∧((sE (jX op ws xs k w) (True))∧(sE (i7 op ws xs k w) (True))∧True)∧((sE (f6 op ws xs k w) (CC (sn (bj op ws k w))))∧True)∧((sE (f6 op ws xs k w) (True))∧(sE (nO op ws xs k w) (True))∧True)∧((sE (f6 op ws xs k w) (True))∧True)∧((sE (i8 op ws xs k w) (True))∧True)∧((sE (i8 op ws xs k w) (True))∧True)∧((sE (nP op ws xs k w) (True))∧True)∧((sE (nQ op ws xs k w) (True))∧True)∧True∧True)∧TT 3 (((bD op)=(bD op)∧((.fn (.func (dz op)) [] []):D)=(.fn (.func (dz op)) [] [])∧((.fn (.func (dA op)) [] []):D)=(.fn (.func (dA op)) [] [])∧True)∧(bj op ws k w)=(bj op ws k w)∧(aB (bj op ws k w))=(aB (bj op ws k w))∧True)))))))))))) (.s 1 (op=2∨op=3∨op=4∨op=5∨op=6∨op=7∨op=8∨op=9) (.w 1 [(0,HB.O),(2,.ent (.agg [(aX op),(.fn (.func (dz op)) [] []),(.fn (.func (dA op)) [] [])]))]<|.w 4 [(10,.val (dB false)),(13,(Hx ws).O)]<|.u 38 (.w 6 [(3,.callg none false (i6 (bj op ws k w)))]<|.y 7 [(3,(sn (bj op ws k w)).O)] [((bm 7 0),(lz op ws xs k w)),((bm 7 1),(rO op ws xs k w)),((bm 7 2),(rP op ws xs k w)),((bm 7 4),(rQ op ws xs k w)),((bm 7 3),(lC op ws xs k w)),((bm 7 5),(lD op ws xs k w)),((bm 7 6),(lF op ws xs k w)),((bm 7 12),(rR op ws xs k w)),((bm 7 7),(iP op ws xs k w)),((bm 7 13),(lG op ws xs k w)),((bm 7 14),(jR op ws xs k w)),((bm 7 15),(gR op ws xs k w)),((bm 7 29),(pD op ws xs k w)),((bm 7 31),(jS op ws xs k w)),((bm 7 63),(pE op ws xs k w)),((bm 7 127),(pF op ws xs k w))]<|.e)) (.w 1 [(0,HB.O),(2,.idx none)]<|.w 3 [(0,JB.O),(2,.ent (.agg [(aX op),(.fn (.func (dz op)) [] []),(.fn (.func (dA op)) [] [])]))]<|.w 4 [(10,.val (dB false)),(13,(Hx ws).O)]<|.u 38 (.w 6 [(3,.callg none false (i6 (bj op ws k w)))]<|.y 7 [(3,(sn (bj op ws k w)).O)] [((bm 7 0),(jT op ws xs k w)),((bm 7 1),(pG op ws xs k w)),((bm 7 2),(pH op ws xs k w)),((bm 7 4),(pI op ws xs k w)),((bm 7 3),(jU op ws xs k w)),((bm 7 5),(jV op ws xs k w)),((bm 7 6),(jW op ws xs k w)),((bm 7 12),(pJ op ws xs k w)),((bm 7 7),(gT op ws xs k w)),((bm 7 13),(jX op ws xs k w)),((bm 7 14),(i7 op ws xs k w)),((bm 7 15),(f6 op ws xs k w)),((bm 7 29),(nO op ws xs k w)),((bm 7 31),(i8 op ws xs k w)),((bm 7 63),(nP op ws xs k w)),((bm 7 127),(nQ op ws xs k w))]<|.e))) Try.func59 rfl rfl rfl (by kernel_rfl) ?_
 refine tt ⟨fun Qe=>?_,fun Qe=>?_⟩
 · have hS:=Qe
   exact⟨mA,tt ⟨(t4 hS),tt ⟨(nF h1),tt ⟨(iM ws hw),tt ⟨(KA h2),tt ⟨(IL op ws xs k w h),tt ⟨rfl,⟨⟨⟨⟨rfl,oK,oK⟩,⟨rfl,oK,oK⟩,⟨rfl,oK,oK⟩,oK⟩,⟨⟨rfl,oK,oK⟩,⟨rfl,oK,oK⟩,oK⟩,⟨⟨rfl,oK,oK⟩,⟨rfl,oK,oK⟩,oK⟩,⟨⟨rfl,oK,oK⟩,⟨rfl,oK,oK⟩,⟨rfl,(dj (bj op ws k w)),oK⟩,oK⟩,⟨⟨rfl,oK,oK⟩,oK⟩,⟨⟨rfl,oK,oK⟩,⟨rfl,(dj (bj op ws k w)),oK⟩,oK⟩,⟨⟨rfl,oK,oK⟩,⟨rfl,(dj (bj op ws k w)),oK⟩,oK⟩,⟨⟨rfl,oK,oK⟩,⟨rfl,oK,oK⟩,oK⟩,⟨⟨rfl,(dj (bj op ws k w)),oK⟩,oK⟩,⟨⟨rfl,oK,oK⟩,⟨rfl,oK,oK⟩,oK⟩,⟨⟨rfl,oK,oK⟩,oK⟩,⟨⟨rfl,oK,oK⟩,oK⟩,⟨⟨rfl,oK,oK⟩,oK⟩,⟨⟨rfl,oK,oK⟩,oK⟩,⟨⟨rfl,oK,oK⟩,oK⟩,oK,oK⟩,tt ⟨⟨rfl,rfl,rfl,oK⟩,rfl,rfl,oK⟩⟩⟩⟩⟩⟩⟩⟩⟩
 · have hS:=Qe
   exact⟨mA,tt ⟨(t5 hS),tt ⟨qR,tt ⟨(t6 (by omega)),tt ⟨(nF h1),tt ⟨(iM ws hw),tt ⟨(KA h2),tt ⟨(IL op ws xs k w h),tt ⟨rfl,⟨⟨⟨⟨rfl,oK,oK⟩,⟨rfl,oK,oK⟩,⟨rfl,oK,oK⟩,oK⟩,⟨⟨rfl,oK,oK⟩,⟨rfl,oK,oK⟩,oK⟩,⟨⟨rfl,oK,oK⟩,⟨rfl,oK,oK⟩,oK⟩,⟨⟨rfl,oK,oK⟩,⟨rfl,oK,oK⟩,⟨rfl,(dj (bj op ws k w)),oK⟩,oK⟩,⟨⟨rfl,oK,oK⟩,oK⟩,⟨⟨rfl,oK,oK⟩,⟨rfl,(dj (bj op ws k w)),oK⟩,oK⟩,⟨⟨rfl,oK,oK⟩,⟨rfl,(dj (bj op ws k w)),oK⟩,oK⟩,⟨⟨rfl,oK,oK⟩,⟨rfl,oK,oK⟩,oK⟩,⟨⟨rfl,(dj (bj op ws k w)),oK⟩,oK⟩,⟨⟨rfl,oK,oK⟩,⟨rfl,oK,oK⟩,oK⟩,⟨⟨rfl,oK,oK⟩,oK⟩,⟨⟨rfl,oK,oK⟩,oK⟩,⟨⟨rfl,oK,oK⟩,oK⟩,⟨⟨rfl,oK,oK⟩,oK⟩,⟨⟨rfl,oK,oK⟩,oK⟩,oK,oK⟩,tt ⟨⟨rfl,rfl,rfl,oK⟩,rfl,rfl,oK⟩⟩⟩⟩⟩⟩⟩⟩⟩⟩⟩
abbrev DP (op:Int) (ws xs:List Int) (k w:Int):Ct:=⟨59,[(i6 op),(.agg [(LI ws),(LI xs),(i6 k),(i6 w)])],true,(.tup [(.agg [(i6 0),(.v .nilf),(.v .nilf)]),(i6 0),(dB false)])⟩
theorem wg (op:Int) (ws xs:List Int) (k w:Int) (hw:ws.length≤9223372036854775807) (h:yU op ws=false):CC (DP op ws xs k w):=by
 refine ap.vc (V:=TT 4 (CS (op=2∨op=3∨op=4∨op=5∨op=6∨op=7∨op=8∨op=9) (CC HB∧TT 1 ((∃(j:Nat) (e:Int×Value),eG[j]?=some e∧op=e.1∧(∀e'∈eG.take j,op≠e'.1)∧qp (D.ofVal e.2) (.agg [(aX op),(.fn (.func (dz op)) [] []),(.fn (.func (dA op)) [] [])]))∧TT 8 (CS ((ws.length:Int)=(bD op)) (TT 10 ((True∧(!decide ((ws.length:Int)=(bD op)))=false)∧TT 2 (CC (Hx ws)∧TT 1 ((!(ws.all aB))=true∧TT 7 (((0:Int)=0∧True∧True∧True)∧(0:Int)=0∧false=false∧True))))) (TT 10 ((True∧(!decide ((ws.length:Int)=(bD op)))=true)∧TT 11 (((0:Int)=0∧True∧True∧True)∧(0:Int)=0∧false=false∧True)))))) (CC HB∧TT 1 ((∀e'∈eG,op≠e'.1)∧TT 8 (CS (op=1∨op=10∨op=11∨op=12∨op=13) (CC JB∧TT 1 ((∃(j:Nat) (e:Int×Value),fd[j]?=some e∧op=e.1∧(∀e'∈fd.take j,op≠e'.1)∧qp (D.ofVal e.2) (.agg [(aX op),(.fn (.func (dz op)) [] []),(.fn (.func (dA op)) [] [])]))∧TT 5 (CS ((ws.length:Int)=(bD op)) (TT 10 ((True∧(!decide ((ws.length:Int)=(bD op)))=false)∧TT 2 (CC (Hx ws)∧TT 1 ((!(ws.all aB))=true∧TT 7 (((0:Int)=0∧True∧True∧True)∧(0:Int)=0∧false=false∧True))))) (TT 10 ((True∧(!decide ((ws.length:Int)=(bD op)))=true)∧TT 11 (((0:Int)=0∧True∧True∧True)∧(0:Int)=0∧false=false∧True)))))) (CC JB∧TT 1 ((∀e'∈fd,op≠e'.1)∧TT 27 (((0:Int)=0∧True∧True∧True)∧(0:Int)=0∧false=false∧True)))))))) (.s 1 (op=2∨op=3∨op=4∨op=5∨op=6∨op=7∨op=8∨op=9) (.w 1 [(0,HB.O),(2,.ent (.agg [(aX op),(.fn (.func (dz op)) [] []),(.fn (.func (dA op)) [] [])]))]<|.s 4 ((ws.length:Int)=(bD op)) (.w 4 [(10,.val (dB false)),(13,(Hx ws).O)]<|.t 38 (.e)) (.w 4 [(10,.val (dB true))]<|.e)) (.w 1 [(0,HB.O),(2,.idx none)]<|.s 3 (op=1∨op=10∨op=11∨op=12∨op=13) (.w 3 [(0,JB.O),(2,.ent (.agg [(aX op),(.fn (.func (dz op)) [] []),(.fn (.func (dA op)) [] [])]))]<|.s 4 ((ws.length:Int)=(bD op)) (.w 4 [(10,.val (dB false)),(13,(Hx ws).O)]<|.t 38 (.e)) (.w 4 [(10,.val (dB true))]<|.e)) (.w 3 [(0,JB.O),(2,.idx none)]<|.e))) Try.func59 rfl rfl rfl (by kernel_rfl) ?_
 refine tt ⟨fun Qe=>?_,fun Qe=>?_⟩
 · have hS:=Qe
   refine⟨mA,tt ⟨(t4 hS),tt ⟨fun Qy=>?_,fun Qy=>?_⟩⟩⟩
   · exact tt ⟨(nF Qy),tt ⟨(iM ws hw),tt ⟨(Mn (by rcases Fq h with h5 | ⟨_,h5⟩;exact absurd (by assumption) h5;rw[h5];simp)),tt ⟨⟨rfl,oK,oK,oK⟩,rfl,rfl,oK⟩⟩⟩⟩
   · exact tt ⟨(nT Qy),tt ⟨⟨rfl,oK,oK,oK⟩,rfl,rfl,oK⟩⟩
 · have hS:=Qe
   refine⟨mA,tt ⟨(t5 hS),tt ⟨fun Ss=>?_,fun Ss=>?_⟩⟩⟩
   · have hO:=Ss
     refine⟨qR,tt ⟨(t6 hO),tt ⟨fun hs3=>?_,fun hs3=>?_⟩⟩⟩
     · exact tt ⟨(nF hs3),tt ⟨(iM ws hw),tt ⟨(Mn (by rcases Fq h with h5 | ⟨_,h5⟩;exact absurd (by assumption) h5;rw[h5];simp)),tt ⟨⟨rfl,oK,oK,oK⟩,rfl,rfl,oK⟩⟩⟩⟩
     · exact tt ⟨(nT hs3),tt ⟨⟨rfl,oK,oK,oK⟩,rfl,rfl,oK⟩⟩
   · have hO:=Ss
     exact⟨qR,tt ⟨(AO hO),tt ⟨⟨rfl,oK,oK,oK⟩,rfl,rfl,oK⟩⟩⟩
theorem oI {op:Int} {ws:List Int} {k w:Int} (h:yU op ws=true) (h2:aB (bj op ws k w)=true):nq op ws k w=true:=by rw[AN,h,h2];rfl
theorem cb {op:Int} {ws:List Int} {k w:Int} (h:¬yU op ws=true):nq op ws k w=false:=by rw[AN,PY.2 h];rfl
theorem cc {op:Int} {ws:List Int} {k w:Int} (h2:¬aB (bj op ws k w)=true):nq op ws k w=false:=by rw[AN,PY.2 h2,PT]
theorem kH {op:Int} {ws:List Int} {k w:Int} (h:nq op ws k w=false):0=fO op ws k w∧1=ly op ws k w:=by unfold fO ly;rw[h];exact⟨rfl,rfl⟩
theorem qS {op:Int} {ws:List Int} {k w:Int} (h:nq op ws k w=true):bj op ws k w=fO op ws k w∧0=ly op ws k w:=by unfold fO ly;rw[h];exact⟨rfl,rfl⟩
abbrev Mr (op:Int) (ws:List Int) (k w:Int):Ct:=⟨49,[(i6 op),(LI ws),(.agg [(i6 k),(i6 w)])],false,(.tup [(i6 (fO op ws k w)),(i6 (ly op ws k w))])⟩
theorem FA (op:Int) (ws:List Int) (k w:Int) (hw:ws.length≤9223372036854775807):CC (Mr op ws k w):=by
 refine ap.vc (V:=TT 3 (CS (yU op ws=true) (TT 2 (((0≤(0:Int)∧0<(2:Int))∧True)∧TT 1 (((0≤(1:Int)∧1<(2:Int))∧True)∧TT 2 ((yr [] [(i6 op),(.agg [(LI ws),.nils,(i6 k),(i6 w)])] (DN op ws [] k w).q'∧CC (DN op ws [] k w))∧TT 10 (CB (!(aB (bj op ws k w))) (TT 4 (((0:Int)=(fO op ws k w)∧(1:Int)=(ly op ws k w)∧True)∧(True∧True∧True))) (TT 5 (((bj op ws k w)=(fO op ws k w)∧(0:Int)=(ly op ws k w)∧True)∧(True∧True∧True)))))))) (TT 2 (((0≤(0:Int)∧0<(2:Int))∧True)∧TT 1 (((0≤(1:Int)∧1<(2:Int))∧True)∧TT 2 ((yr [] [(i6 op),(.agg [(LI ws),.nils,(i6 k),(i6 w)])] (DP op ws [] k w).q'∧CC (DP op ws [] k w))∧TT 14 (((0:Int)=(fO op ws k w)∧(1:Int)=(ly op ws k w)∧True)∧(True∧True∧True)))))))) (.s 1 (yU op ws=true) (.w 1 [(7,(DN op ws [] k w).O')]<|.b 24 (.e) (.e)) (.w 1 [(7,(DP op ws [] k w).O')]<|.e)) Try.func49 rfl rfl rfl (by kernel_rfl) ?_
 refine tt ⟨fun Qe=>?_,fun Qe=>?_⟩
 · have hb:=Qe
   refine tt ⟨⟨by omega,oK⟩,tt ⟨⟨by omega,oK⟩,tt ⟨⟨⟨rfl,⟨rfl,rfl,rfl,rfl,oK⟩,oK⟩,(we op ws [] k w hw hb)⟩,tt ⟨fun RT=>?_,fun RT=>?_⟩⟩⟩⟩
   · refine tt ⟨⟨?_,?_,oK⟩,⟨oK,oK,oK⟩⟩
     all_goals (first | exact(kH (cb hb)).1 | exact(kH (cb hb)).2 | exact(kH (cc (by simpa using RT))).1 | exact(kH (cc (by simpa using RT))).2 | exact(qS (oI hb (by simpa using RT))).1 | exact(qS (oI hb (by simpa using RT))).2)
   · refine tt ⟨⟨?_,?_,oK⟩,⟨oK,oK,oK⟩⟩
     all_goals (first | exact(kH (cb hb)).1 | exact(kH (cb hb)).2 | exact(kH (cc (by simpa using RT))).1 | exact(kH (cc (by simpa using RT))).2 | exact(qS (oI hb (by simpa using RT))).1 | exact(qS (oI hb (by simpa using RT))).2)
 · have hb:=Qe
   refine tt ⟨⟨by omega,oK⟩,tt ⟨⟨by omega,oK⟩,tt ⟨⟨⟨rfl,⟨rfl,rfl,rfl,rfl,oK⟩,oK⟩,(wg op ws [] k w hw (PY.2 hb))⟩,tt ⟨⟨?_,?_,oK⟩,⟨oK,oK,oK⟩⟩⟩⟩⟩
   all_goals (first | exact(kH (cb hb)).1 | exact(kH (cb hb)).2 | exact(kH (cc (by simpa using RT))).1 | exact(kH (cc (by simpa using RT))).2 | exact(qS (oI hb (by simpa using RT))).1 | exact(qS (oI hb (by simpa using RT))).2)
abbrev Ms (op:Int) (ws xs P':List Int):Ct:=⟨48,[(i6 op),(LI ws),(LI xs),(LI P')],false,(.tup [(i6 (dy op ws xs P')),(i6 (gE op ws xs P'))])⟩
abbrev pK (op:Int) (ws:List Int) (xs:List Int) (P':List Int):Lp (Nat):=lm [1,10,11,44,45,46] 11 (fun (i:Nat)=>⟨[(1,(LI ws)),(10,(.ptr 9 0 0 0)),(11,(.ptr 10 0 0 0)),(44,(LI xs)),(45,(i6 (xs.length:Int))),(46,(i6 (i:Int)))],[.dead,.dead,.dead,.dead,.dead,.dead,.dead,.dead,.dead,(.var 158 [(LI ws),(LI xs),(i6 (P'.getD 0 0)),(i6 (P'.getD 1 0))]),(.var 161 [(aX op),(.fn (.func (dz op)) [] []),(.fn (.func (dA op)) [] [])])]⟩) (fun (i:Nat)=>i≤xs.length∧∀j,j<i→0≤xs.getD j 0∧xs.getD j 0≤ao (ws.getD j 0)) (fun (i:Nat)=>xs.length-i)
theorem FB (op:Int) (ws xs P':List Int) (Tj:ws.length≤9223372036854775807) (hxl0:xs.length≤9223372036854775807):CC (Ms op ws xs P'):=by
 refine ap.vc (V:=TT 2 (CS ((P'.length:Int)=2) (TT 3 ((True∧(!decide ((P'.length:Int)=2))=false)∧TT 6 (CN ((xs.length:Int)=(ws.length:Int)) (TT 4 (((0:Int)=(dy op ws xs P')∧(1:Int)=(gE op ws xs P')∧True)∧(True∧True∧True))) (TT 3 (IX 0 P'.length∧TT 2 (IX 1 P'.length∧TT 4 (CS (yU op ws=true) (TT 2 (CC (DN op ws xs (P'.getD 0 0) (P'.getD 1 0))∧TT 10 (CB (!(aB (bj op ws (P'.getD 0 0) (P'.getD 1 0)))) (TT 4 (((0:Int)=(dy op ws xs P')∧(1:Int)=(gE op ws xs P')∧True)∧(True∧True∧True))) (TT 3 (GO (pK op ws xs P') 0 (∀i,(pK op ws xs P').inv i→TT 1 (CD ((i:Int)<(xs.length:Int)) (TT 1 (IX (i:Int) xs.length∧TT 3 (CS ((xs.getD i 0)<0) (TT 2 ((True∧(decide ((xs.getD i 0)<0))=true)∧TT 12 (((0:Int)=(dy op ws xs P')∧(1:Int)=(gE op ws xs P')∧True)∧(True∧True∧True)))) (TT 2 ((True∧(decide ((xs.getD i 0)<0))=false)∧TT 3 (IX (i:Int) ws.length∧TT 1 (CC (Hw (ws.getD i 0))∧TT 2 (CD ((xs.getD i 0)>(ao (ws.getD i 0))) (TT 4 (((0:Int)=(dy op ws xs P')∧(1:Int)=(gE op ws xs P')∧True)∧(True∧True∧True))) (W6 ((i+1:Nat):Int)∧TT 1 (AG (pK op ws xs P') i (i+1))))))))))) (TT 3 (GC (cV op ws xs (P'.getD 0 0) (P'.getD 1 0))∧TT 4 (((nr op ws xs (P'.getD 0 0) (P'.getD 1 0))=(dy op ws xs P')∧(0:Int)=(gE op ws xs P')∧True)∧(True∧True∧True))))))))))) (TT 2 (CC (DP op ws xs (P'.getD 0 0) (P'.getD 1 0))∧TT 14 (((0:Int)=(dy op ws xs P')∧(1:Int)=(gE op ws xs P')∧True)∧(True∧True∧True))))))))))) (TT 3 ((True∧(!decide ((P'.length:Int)=2))=true)∧TT 10 (((0:Int)=(dy op ws xs P')∧(1:Int)=(gE op ws xs P')∧True)∧(True∧True∧True)))))) (.s 1 ((P'.length:Int)=2) (.w 1 [(3,.val (dB false))]<|.b 25 (.e) (.s 4 (yU op ws=true) (.w 4 [(2,(DN op ws xs (P'.getD 0 0) (P'.getD 1 0)).O)]<|.b 43 (.e) (.l (pK op ws xs P') 0 (fun i=>.b 47 (.s 10 ((xs.getD i 0)<0) (.w 10 [(2,.val (dB true))]<|.e) (.w 10 [(2,.val (dB false)),(8,(Hw (ws.getD i 0)).O)]<|.b 61 (.e) (.w 12 [(0,.val (i6 ((i+1:Nat):Int)))]<|.e))) (.w 13 [(3,.callg none false (i6 (nr op ws xs (P'.getD 0 0) (P'.getD 1 0))))]<|.e)))) (.w 4 [(2,(DP op ws xs (P'.getD 0 0) (P'.getD 1 0)).O)]<|.e))) (.w 1 [(3,.val (dB true))]<|.e)) Try.func48 rfl rfl rfl (by kernel_rfl) ?_
 refine tt ⟨fun Qe=>?_,fun Qe=>?_⟩
 · refine tt ⟨(nF Qe),tt (cn (fun QC=>?_) (fun QC=>?_))⟩
   · refine tt ⟨⟨?_,?_,oK⟩,⟨oK,oK,oK⟩⟩
     all_goals (first | exact(aW (pA (by omega))).1.symm | exact(aW (pA (by omega))).2.symm | exact(aW (pB (by omega))).1.symm | exact(aW (pB (by omega))).2.symm | exact(aW (bZ (cb hb))).1.symm | exact(aW (bZ (cb hb))).2.symm | exact(aW (bZ (cc (by simpa using Qx)))).1.symm | exact(aW (bZ (cc (by simpa using Qx)))).2.symm | exact(aW (iL (i:=i) (by omega) (by omega))).1.symm | exact(aW (iL (i:=i) (by omega) (by omega))).2.symm | exact(eI R8 R7 Rd hin).1.symm | exact(eI R8 R7 Rd hin).2.symm)
   · refine tt ⟨ix,tt ⟨ix,tt ⟨fun Qy=>?_,fun Qy=>?_⟩⟩⟩
     · have hb:=Qy
       refine tt ⟨(we op ws xs (P'.getD 0 0) (P'.getD 1 0) Tj hb),tt ⟨fun Qx=>?_,fun Qx=>?_⟩⟩
       · refine tt ⟨⟨?_,?_,oK⟩,⟨oK,oK,oK⟩⟩
         all_goals (first | exact(aW (pA (by omega))).1.symm | exact(aW (pA (by omega))).2.symm | exact(aW (pB (by omega))).1.symm | exact(aW (pB (by omega))).2.symm | exact(aW (bZ (cb hb))).1.symm | exact(aW (bZ (cb hb))).2.symm | exact(aW (bZ (cc (by simpa using Qx)))).1.symm | exact(aW (bZ (cc (by simpa using Qx)))).2.symm | exact(aW (iL (i:=i) (by omega) (by omega))).1.symm | exact(aW (iL (i:=i) (by omega) (by omega))).2.symm | exact(eI R8 R7 Rd hin).1.symm | exact(eI R8 R7 Rd hin).2.symm)
       · refine tt ?_
         have Rd:=oI hb (by simpa using Qx)
         have R8:P'.length=2:=by omega
         have R7:xs.length=ws.length:=by omega
         refine⟨rfl,⟨by omega,fun j hj=>by omega⟩,?_⟩
         intro i L'
         obtain⟨hi,hall⟩:=L'
         refine tt (cd (fun hc47=>?_) (fun hc47=>?_))
         · refine tt ⟨ix,tt ⟨fun Ss=>?_,fun Ss=>?_⟩⟩
           · refine tt ⟨(vT Ss),tt ⟨⟨?_,?_,oK⟩,⟨oK,oK,oK⟩⟩⟩
             all_goals (first | exact(aW (pA (by omega))).1.symm | exact(aW (pA (by omega))).2.symm | exact(aW (pB (by omega))).1.symm | exact(aW (pB (by omega))).2.symm | exact(aW (bZ (cb hb))).1.symm | exact(aW (bZ (cb hb))).2.symm | exact(aW (bZ (cc (by simpa using Qx)))).1.symm | exact(aW (bZ (cc (by simpa using Qx)))).2.symm | exact(aW (iL (i:=i) (by omega) (by omega))).1.symm | exact(aW (iL (i:=i) (by omega) (by omega))).2.symm | exact(eI R8 R7 Rd hin).1.symm | exact(eI R8 R7 Rd hin).2.symm)
           · refine tt ⟨(vF Ss),tt ⟨ix,tt ⟨(sQ (ws.getD i 0)),tt (cd (fun Te=>?_) (fun Te=>?_))⟩⟩⟩
             · refine tt ⟨⟨?_,?_,oK⟩,⟨oK,oK,oK⟩⟩
               all_goals (first | exact(aW (pA (by omega))).1.symm | exact(aW (pA (by omega))).2.symm | exact(aW (pB (by omega))).1.symm | exact(aW (pB (by omega))).2.symm | exact(aW (bZ (cb hb))).1.symm | exact(aW (bZ (cb hb))).2.symm | exact(aW (bZ (cc (by simpa using Qx)))).1.symm | exact(aW (bZ (cc (by simpa using Qx)))).2.symm | exact(aW (iL (i:=i) (by omega) (by omega))).1.symm | exact(aW (iL (i:=i) (by omega) (by omega))).2.symm | exact(eI R8 R7 Rd hin).1.symm | exact(eI R8 R7 Rd hin).2.symm)
             · refine⟨w6,tt ⟨(i+1),rfl,?_,(?_:xs.length-(i+1)<xs.length-i)⟩⟩
               · exact⟨by omega,d4 hall ⟨by omega,by omega⟩⟩
               · omega
         · have hin:DI ws xs=true:=Fp (fun j hj=>hall j (by omega))
           refine tt ⟨(Li op ws xs _ _ Rd R7 hin),tt ⟨⟨?_,?_,oK⟩,⟨oK,oK,oK⟩⟩⟩
           all_goals (first | exact(aW (pA (by omega))).1.symm | exact(aW (pA (by omega))).2.symm | exact(aW (pB (by omega))).1.symm | exact(aW (pB (by omega))).2.symm | exact(aW (bZ (cb hb))).1.symm | exact(aW (bZ (cb hb))).2.symm | exact(aW (bZ (cc (by simpa using Qx)))).1.symm | exact(aW (bZ (cc (by simpa using Qx)))).2.symm | exact(aW (iL (i:=i) (by omega) (by omega))).1.symm | exact(aW (iL (i:=i) (by omega) (by omega))).2.symm | exact(eI R8 R7 Rd hin).1.symm | exact(eI R8 R7 Rd hin).2.symm)
     · have hb:=Qy
       refine tt ⟨(wg op ws xs (P'.getD 0 0) (P'.getD 1 0) Tj (PY.2 hb)),tt ⟨⟨?_,?_,oK⟩,⟨oK,oK,oK⟩⟩⟩
       all_goals (first | exact(aW (pA (by omega))).1.symm | exact(aW (pA (by omega))).2.symm | exact(aW (pB (by omega))).1.symm | exact(aW (pB (by omega))).2.symm | exact(aW (bZ (cb hb))).1.symm | exact(aW (bZ (cb hb))).2.symm | exact(aW (bZ (cc (by simpa using Qx)))).1.symm | exact(aW (bZ (cc (by simpa using Qx)))).2.symm | exact(aW (iL (i:=i) (by omega) (by omega))).1.symm | exact(aW (iL (i:=i) (by omega) (by omega))).2.symm | exact(eI R8 R7 Rd hin).1.symm | exact(eI R8 R7 Rd hin).2.symm)
 · refine tt ⟨(nT Qe),tt ⟨⟨?_,?_,oK⟩,⟨oK,oK,oK⟩⟩⟩
   all_goals (first | exact(aW (pA (by omega))).1.symm | exact(aW (pA (by omega))).2.symm | exact(aW (pB (by omega))).1.symm | exact(aW (pB (by omega))).2.symm | exact(aW (bZ (cb hb))).1.symm | exact(aW (bZ (cb hb))).2.symm | exact(aW (bZ (cc (by simpa using Qx)))).1.symm | exact(aW (bZ (cc (by simpa using Qx)))).2.symm | exact(aW (iL (i:=i) (by omega) (by omega))).1.symm | exact(aW (iL (i:=i) (by omega) (by omega))).2.symm | exact(eI R8 R7 Rd hin).1.symm | exact(eI R8 R7 Rd hin).2.symm)
set_option maxRecDepth 100000
abbrev HG (p:Pr) (s:Ps) (data:List Int) (n:Nat) (e:Ex):Ct:=⟨31,[(.agg [(dS p.name),(dS p.clock),(dL 13 jY bU p.NI),(dL 27 t7 a6 p.NH),(dL 9 oJ aD p.I),(dL 16 nR an p.NG),(LI s.NI),(dL 1 af [] s.NH),(LI data)]),(.agg [(i6 e.op),(dS e.name),(i6 e.k.n),(dS e.k.p),(i6 e.w.n),(dS e.w.p),(dL 7 (eA n) dE e.args)])],false,(.tup [(i6 ((bC p s data e).1)),(i6 ((bC p s data e).2))])⟩
abbrev xA (p:Pr) (s:Ps) (data:List Int) (n:Nat) (e:Ex):Lp (Nat):=lm [2,3,6,9,10,90,91,92] 4 (fun (i:Nat)=>⟨[(2,(.ptr 0 0 0 0)),(3,(.ptr 1 0 0 0)),(6,(i6 e.k.n)),(9,(.own 2)),(10,(.own 3)),(90,(dL 7 (eA (n+1)) dE e.args)),(91,(i6 (e.args.length:Int))),(92,(i6 (i:Int)))],[(.var 115 [(dS p.name),(dS p.clock),(dL 13 jY bU p.NI),(dL 27 t7 a6 p.NH),(dL 9 oJ aD p.I),(dL 16 nR an p.NG),(LI s.NI),(dL 1 af [] s.NH),(LI data)]),(.var 102 [(i6 e.op),(dS e.name),(i6 e.k.n),(dS e.k.p),(i6 e.w.n),(dS e.w.p),(dL 7 (eA (n+1)) dE e.args)]),(.arr 3 1 (ac .i64) 0 (kI p s data (e.args.take i))),(.arr 3 1 (ac .i64) 0 (iq p s data (e.args.take i)))]⟩) (fun (i:Nat)=>i≤e.args.length) (fun (i:Nat)=>e.args.length-i)
theorem FE (p:Pr) (s:Ps) (data:List Int) (n:Nat) (e:Ex) (c:Sc) (v:Int) (ho:xz c p s data) (ht:eT c e=some v) (ih:∀a∈e.args,CC (HG p s data n a)):CC (HG p s data (n+1) e):=by
 have QG:=JE ht
 refine ap.vc (V:=TT 12 (CD (e.op=16) (TT 4 (IX e.k.n s.NI.length∧TT 5 (IX e.k.n p.NI.length∧TT 6 (((s.NI.getD e.k.n.toNat 0)=((bC p s data e).1)∧((p.NI.getD e.k.n.toNat bU).w)=((bC p s data e).2)∧True)∧(True∧True∧True))))) (TT 2 (CD (e.op=18) (TT 3 (IX e.k.n data.length∧TT 5 (IX e.k.n p.I.length∧TT 6 (((data.getD e.k.n.toNat 0)=((bC p s data e).1)∧((p.I.getD e.k.n.toNat aD).w)=((bC p s data e).2)∧True)∧(True∧True∧True))))) (TT 2 (CD (e.op=17) (TT 3 (IX 0 e.args.length∧TT 1 (CC (HG p s data n (e.args.getD 0 dE))∧TT 9 (IX e.k.n s.NH.length∧TT 6 (IX e.k.n s.NH.length∧TT 2 ((((s.NH.getD e.k.n.toNat []).length:Nat):Int)≠0∧IX (Int.tmod ((bC p s data (e.args.getD 0 dE)).1) (((s.NH.getD e.k.n.toNat []).length:Nat):Int)) ((s.NH.getD e.k.n.toNat []).length)∧TT 5 (IX e.k.n p.NH.length∧TT 6 ((((s.NH.getD e.k.n.toNat []).getD ((Int.tmod ((bC p s data (e.args.getD 0 dE)).1) (((s.NH.getD e.k.n.toNat []).length:Nat):Int)).toNat) 0)=((bC p s data e).1)∧((p.NH.getD e.k.n.toNat a6).w)=((bC p s data e).2)∧True)∧(True∧True∧True))))))))) (TT 6 (GO (xA p s data n e) 0 (∀i,(xA p s data n e).inv i→TT 1 (CD ((i:Int)<(e.args.length:Int)) (IX (i:Int) e.args.length∧TT 5 (CC (HG p s data n (e.args.getD i dE))∧TT 7 (av [[(i6 ((bC p s data (e.args.getD i dE)).1))]] ([(bC p s data (e.args.getD i dE)).1].map (ac .i64))∧((kI p s data (e.args.take i)).length+([(bC p s data (e.args.getD i dE)).1].map (ac .i64)).length≤137438953472∧(kI p s data (e.args.take i)).map (ac .i64)++[(bC p s data (e.args.getD i dE)).1].map (ac .i64)=(kI p s data (e.args.take (i+1))).map (ac .i64))∧TT 2 (av [[(i6 ((bC p s data (e.args.getD i dE)).2))]] ([(bC p s data (e.args.getD i dE)).2].map (ac .i64))∧((iq p s data (e.args.take i)).length+([(bC p s data (e.args.getD i dE)).2].map (ac .i64)).length≤137438953472∧(iq p s data (e.args.take i)).map (ac .i64)++[(bC p s data (e.args.getD i dE)).2].map (ac .i64)=(iq p s data (e.args.take (i+1))).map (ac .i64))∧TT 2 (W6 ((i+1:Nat):Int)∧TT 1 (AG (xA p s data n e) i (i+1))))))) (TT 11 ((0≤(0:Int)∧(0:Int)≤(2:Int)∧(2:Int)≤(2:Int))∧CK (Ms e.op (iq p s data (e.args.take i)) (kI p s data (e.args.take i)) [e.k.n,e.w.n])∧TT 9 (CK (Mr e.op (iq p s data (e.args.take i)) e.k.n e.w.n)∧TT 11 (((dy e.op (iq p s data (e.args.take i)) (kI p s data (e.args.take i)) [e.k.n,e.w.n])=((bC p s data e).1)∧(fO e.op (iq p s data (e.args.take i)) e.k.n e.w.n)=((bC p s data e).2)∧True)∧(True∧True∧True))))))))))))))) (.b 25 (.e) (.b 40 (.e) (.b 54 (.w 8 [(5,(HG p s data n (e.args.getD 0 dE)).O)]<|.e) (.gs 11 9 3 1 (ac .i64) 0<|.gs 11 10 3 1 (ac .i64) 0<|.l (xA p s data n e) 0 (fun i=>.b 93 (.w 14 [(2,(HG p s data n (e.args.getD i dE)).O)]<|.w 15 [(2,.box 3 1 (ac .i64) 0 [(bC p s data (e.args.getD i dE)).1]),(3,.box 3 1 (ac .i64) 0 (kI p s data (e.args.take (i+1)))),(6,.box 3 1 (ac .i64) 0 [(bC p s data (e.args.getD i dE)).2]),(7,.box 3 1 (ac .i64) 0 (iq p s data (e.args.take (i+1))))]<|.w 16 [(0,.val (i6 ((i+1:Nat):Int)))]<|.e) (.f 18 4<|.w 18 [(5,(Ms e.op (iq p s data (e.args.take i)) (kI p s data (e.args.take i)) [e.k.n,e.w.n]).O')]<|.w 19 [(4,(Mr e.op (iq p s data (e.args.take i)) e.k.n e.w.n).O')]<|.e)))))) Try.func31 rfl rfl rfl (by kernel_rfl) ?_
 refine tt (cd (fun QC=>?_) (fun QC=>?_))
 · obtain⟨h1,h2,h3⟩:=JF ho ht QC
   refine tt ⟨ix,tt ⟨ix,tt ⟨⟨?_,?_,oK⟩,⟨oK,oK,oK⟩⟩⟩⟩
   all_goals (first | exact(lH QC).1.symm | exact(lH QC).2.symm | exact(iR Rv).1.symm | exact(iR Rv).2.symm | exact(iT Rx Qi).1.symm | exact(iT Rx Qi).2.symm | (rw[SA,Pk];exact(rS QC Rv Rx).1.symm) | (rw[SA,Pk];exact(rS QC Rv Rx).2.symm))
 · refine tt (cd (fun Rv=>?_) (fun Rv=>?_))
   · obtain⟨h1,h2,h3⟩:=HD ho ht Rv
     refine tt ⟨ix,tt ⟨ix,tt ⟨⟨?_,?_,oK⟩,⟨oK,oK,oK⟩⟩⟩⟩
     all_goals (first | exact(lH QC).1.symm | exact(lH QC).2.symm | exact(iR Rv).1.symm | exact(iR Rv).2.symm | exact(iT Rx Qi).1.symm | exact(iT Rx Qi).2.symm | (rw[SA,Pk];exact(rS QC Rv Rx).1.symm) | (rw[SA,Pk];exact(rS QC Rv Rx).2.symm))
   · refine tt (cd (fun Rx=>?_) (fun Rx=>?_))
     · obtain⟨h1,h2,h3,Qi,h4,h5,h6⟩:=HF ho ht Rx
       refine tt ⟨ix,tt ⟨(ih _ (mD (by omega))),tt ⟨ix,tt ⟨ix,tt ⟨om,⟨ix,tt ⟨ix,tt ⟨⟨?_,?_,oK⟩,⟨oK,oK,oK⟩⟩⟩⟩⟩⟩⟩⟩⟩
       all_goals (first | exact(lH QC).1.symm | exact(lH QC).2.symm | exact(iR Rv).1.symm | exact(iR Rv).2.symm | exact(iT Rx Qi).1.symm | exact(iT Rx Qi).2.symm | (rw[SA,Pk];exact(rS QC Rv Rx).1.symm) | (rw[SA,Pk];exact(rS QC Rv Rx).2.symm))
     · refine tt ⟨rfl,(by omega),?_⟩
       intro i L'
       have hi:=L'
       refine tt (cd (fun hc93=>?_) (fun hc93=>?_))
       · refine⟨ix,tt ⟨(ih _ (mD (by omega))),tt ⟨⟨⟨rfl,oK⟩,oK⟩,⟨⟨by first | (simp[kI];done) | (simp[kI];omega),by rw[DS (by omega),Ox]⟩,tt ⟨⟨⟨rfl,oK⟩,oK⟩,⟨⟨by first | (simp[iq];done) | (simp[iq];omega),by rw[DT (by omega),Ox]⟩,tt ⟨w6,tt ⟨(i+1),rfl,(?_:(i+1)≤e.args.length),(?_:e.args.length-(i+1)<e.args.length-i)⟩⟩⟩⟩⟩⟩⟩⟩
         · omega
         · omega
       · have SA:i=e.args.length:=by omega
         refine tt ⟨om,⟨⟨ey _ rfl,(FB e.op (iq p s data (e.args.take i)) (kI p s data (e.args.take i)) [e.k.n,e.w.n] (by rw[yW,N3];omega) (by rw[FD,N3];omega))⟩,tt ⟨⟨ey _ rfl,(FA e.op (iq p s data (e.args.take i)) e.k.n e.w.n (by rw[yW,N3];omega))⟩,tt ⟨⟨?_,?_,oK⟩,⟨oK,oK,oK⟩⟩⟩⟩⟩
         all_goals (first | exact(lH QC).1.symm | exact(lH QC).2.symm | exact(iR Rv).1.symm | exact(iR Rv).2.symm | exact(iT Rx Qi).1.symm | exact(iT Rx Qi).2.symm | (rw[SA,Pk];exact(rS QC Rv Rx).1.symm) | (rw[SA,Pk];exact(rS QC Rv Rx).2.symm))
theorem Cr {c:Sc} {p:Pr} {s:Ps} {data:List Int} (ho:xz c p s data):∀(n:Nat) (e:Ex) (v:Int),eT c e=some v→fP e≤n+1→CC (HG p s data n e)
  | 0,e,v,ht,hd=>by
    have ha:e.args=[]:=by
      cases hl:e.args with
      | nil=>rfl
      | cons a r =>
        have:=Cq (e:=e) (a:=a) (by rw[hl];simp)
        cases a with | mk op name k w args=>rw[fP]at this;omega
    have h:=FE p s data 0 e c v ho ht (fun a h=>by rw[ha]at h;cases h)
    refine ap.recast ?_ h
    refine⟨yT _ rfl,⟨rfl,rfl,rfl,rfl,rfl,rfl,?_,oK⟩,oK⟩
    show e.args.map (eA 0)=e.args.map (eA 1)
    rw[ha];rfl
  | n+1,e,v,ht,hd=>FE p s data n e c v ho ht (fun a h=>by
    obtain⟨w,hw⟩:=JD ht h
    exact Cr ho n a w hw (by have:=Cq h;omega))
abbrev nY (s:Ps):D:=(dL 1 af [] s.NH)
abbrev pT (p:Pr) (s:Ps):ak:=(.var 115 [(dS p.name),(dS p.clock),(dL 13 jY bU p.NI),(dL 27 t7 a6 p.NH),(dL 9 oJ aD p.I),(dL 16 nR an p.NG),(LI s.NI),(nY s),(.own 8)])
abbrev rU:D:=(.fn (.func 30) [] [(.ptr 10 0 0 0)])
abbrev IQ (p:Pr) (s:Ps):D:=(.agg [(dS p.name),(dS p.clock),(dL 13 jY bU p.NI),(dL 27 t7 a6 p.NH),(dL 9 oJ aD p.I),(dL 16 nR an p.NG),(LI s.NI),(nY s),(.own 8)])
abbrev CE (p:Pr) (s:Ps):List (Nat×D):=[(127,rU),(126,(IQ p s)),(8,(.ptr 2 0 0 0)),(9,(.ptr 10 0 0 0)),(10,rU),(11,(.ptr 21 0 0 0))]
abbrev rV (p:Pr):ak:=(.var 57 [(dS p.name),(dS p.clock),(dL 13 jY bU p.NI),(dL 27 t7 a6 p.NH),(dL 9 oJ aD p.I),(dL 16 nR an p.NG)])
abbrev wm:ak:=(.var 65 [(dB false),.nils,.nils,.nils,.nils])
abbrev IR (p:Pr):D:=(.agg [(dS p.name),(dS p.clock),(dL 13 jY bU p.NI),(dL 27 t7 a6 p.NH),(dL 9 oJ aD p.I),(dL 16 nR an p.NG)])
abbrev wn (s:Ps):ak:=(.var 50 [(LI s.NI),(nY s)])
set_option maxRecDepth 100000
abbrev Mu (p:Pr):Ct:=⟨37,[(IR p)],true,(.agg [(LI ((aQ p).NI)),(dL 1 af [] ((aQ p).NH))])⟩
abbrev mK (p:Pr):Lp (Nat):=lm [1,2,3,9,10,11] 4 (fun (i:Nat)=>⟨[(1,(.ptr 0 0 0 0)),(2,(.ptr 1 0 0 0)),(3,(.ptr 2 0 0 0)),(9,(dL 13 jY bU p.NI)),(10,(i6 (p.NI.length:Int))),(11,(i6 (i:Int)))],[(rV p),(.var 50 [.nils,.nils]),(.var 50 [(.own 3),.nils]),(.arr 3 1 (ac .i64) 0 (tab (fun z=>(p.NI.getD z bU).init) i))]⟩) (fun (i:Nat)=>i≤p.NI.length) (fun (i:Nat)=>p.NI.length-i)
abbrev mL (p:Pr) (i:Nat):Lp (Nat):=lm [2,3,24,25,26] 5 (fun (j:Nat)=>⟨[(2,(.ptr 1 0 0 0)),(3,(.ptr 2 0 0 0)),(24,(dL 27 t7 a6 p.NH)),(25,(i6 (p.NH.length:Int))),(26,(i6 (j:Int)))],[(rV p),(.var 50 [.nils,.nils]),(.var 50 [(.own 3),(.own 4)]),(.arr 3 1 (ac .i64) 0 (tab (fun z=>(p.NI.getD z bU).init) i)),(.arr 35 1 af [] (tab (fun z=>List.replicate (p.NH.getD z a6).NJ.toNat (0:Int)) j))]⟩) (fun (j:Nat)=>j≤p.NH.length) (fun (j:Nat)=>p.NH.length-j)
theorem DY (p:Pr) (hp:gt p):CC (Mu p):=by
 have Ut:=hp.rl
 have R8:=hp.ml
 refine ap.vc (V:=TT 7 (GO (mK p) 0 (∀i,(mK p).inv i→TT 1 (CD ((i:Int)<(p.NI.length:Int)) (IX (i:Int) p.NI.length∧TT 7 (av [[(i6 ((p.NI.getD i bU).init))]] ([(p.NI.getD i bU).init].map (ac .i64))∧((tab (fun z=>(p.NI.getD z bU).init) i).length+([(p.NI.getD i bU).init].map (ac .i64)).length≤137438953472∧(tab (fun z=>(p.NI.getD z bU).init) i).map (ac .i64)++[(p.NI.getD i bU).init].map (ac .i64)=(tab (fun z=>(p.NI.getD z bU).init) (i+1)).map (ac .i64))∧TT 2 (W6 ((i+1:Nat):Int)∧TT 1 (AG (mK p) i (i+1))))) (TT 4 (GO (mL p i) 0 (∀j,(mL p i).inv j→TT 1 (CD ((j:Int)<(p.NH.length:Int)) (IX (j:Int) p.NH.length∧TT 7 ((((0:Int)≤(p.NH.getD j a6).NJ∧(p.NH.getD j a6).NJ≤(p.NH.getD j a6).NJ∧(p.NH.getD j a6).NJ≤137438953472)∧(List.replicate (p.NH.getD j a6).NJ.toNat (0:Int)).length=((p.NH.getD j a6).NJ).toNat∧∀x∈(List.replicate (p.NH.getD j a6).NJ.toNat (0:Int)),dp [(i6 0)] ((ac .i64) x))∧av [[(LI (List.replicate (p.NH.getD j a6).NJ.toNat (0:Int)))]] ([List.replicate (p.NH.getD j a6).NJ.toNat (0:Int)].map af)∧((tab (fun z=>List.replicate (p.NH.getD z a6).NJ.toNat (0:Int)) j).length+([List.replicate (p.NH.getD j a6).NJ.toNat (0:Int)].map af).length≤137438953472∧(tab (fun z=>List.replicate (p.NH.getD z a6).NJ.toNat (0:Int)) j).map af++[List.replicate (p.NH.getD j a6).NJ.toNat (0:Int)].map af=(tab (fun z=>List.replicate (p.NH.getD z a6).NJ.toNat (0:Int)) (j+1)).map af)∧TT 2 (W6 ((j+1:Nat):Int)∧TT 1 (AG (mL p i) j (j+1))))) (TT 3 ((tab (fun z=>(p.NI.getD z bU).init) i).map (ac .i64)=((aQ p).NI).map (ac .i64)∧(tab (fun z=>List.replicate (p.NH.getD z a6).NJ.toNat (0:Int)) j).map af=((aQ p).NH).map af∧True)))))))))) (.g 2 2 0 3 1 (ac .i64) 0<|.l (mK p) 0 (fun i=>.b 12 (.w 5 [(4,.box 3 1 (ac .i64) 0 [(p.NI.getD i bU).init]),(5,.box 3 1 (ac .i64) 0 (tab (fun z=>(p.NI.getD z bU).init) (i+1)))]<|.w 6 [(0,.val (i6 ((i+1:Nat):Int)))]<|.e) (.g 7 2 1 35 1 af []<|.l (mL p i) 0 (fun j=>.b 27 (.w 10 [(4,.frz 3 1 (ac .i64) 0 (List.replicate (p.NH.getD j a6).NJ.toNat (0:Int))),(5,.box 35 1 af [] [List.replicate (p.NH.getD j a6).NJ.toNat (0:Int)]),(6,.box 35 1 af [] (tab (fun z=>List.replicate (p.NH.getD z a6).NJ.toNat (0:Int)) (j+1)))]<|.w 11 [(0,.val (i6 ((j+1:Nat):Int)))]<|.e) (.e))))) Try.func37 rfl rfl rfl (by kernel_rfl) ?_
 refine tt ⟨rfl,(by omega),?_⟩
 intro i L'
 have hi:=L'
 refine tt (cd (fun hc12=>?_) (fun hc12=>?_))
 · refine⟨ix,tt ⟨⟨⟨rfl,oK⟩,oK⟩,⟨(mH (f:=fun z=>(p.NI.getD z bU).init) (by omega)),tt ⟨w6,tt ⟨(i+1),rfl,(?_:(i+1)≤p.NI.length),(?_:p.NI.length-(i+1)<p.NI.length-i)⟩⟩⟩⟩⟩
   · omega
   · omega
 · refine tt ⟨rfl,(by omega),?_⟩
   intro j L'
   have hj:=L'
   refine tt (cd (fun hc27=>?_) (fun hc27=>?_))
   · refine⟨ix,?_⟩
     have UU:1≤(p.NH.getD j a6).NJ∧(p.NH.getD j a6).NJ≤4:=(hp.mw j (by omega)).2.1
     refine tt ⟨⟨by omega,NR,fun x hx=>by rw[Ol hx];exact⟨rfl,oK⟩⟩,⟨⟨⟨rfl,oK⟩,oK⟩,⟨(mH (f:=fun z=>List.replicate (p.NH.getD z a6).NJ.toNat (0:Int)) (by omega)),tt ⟨w6,tt ⟨(j+1),rfl,(?_:(j+1)≤p.NH.length),(?_:p.NH.length-(j+1)<p.NH.length-j)⟩⟩⟩⟩⟩
     · omega
     · omega
   · refine tt ⟨(congrArg _ (?_:(tab (fun z=>(p.NI.getD z bU).init) i)=((aQ p).NI))),(congrArg _ (?_:(tab (fun z=>List.replicate (p.NH.getD z a6).NJ.toNat (0:Int)) j)=((aQ p).NH))),oK⟩
     · rw[pS,show i=p.NI.length by omega]
     · rw[pS,show j=p.NH.length by omega]
abbrev AY (p:Pr) (s:Ps) (data:List Int) (e:Ex):Ct:=⟨30,[(.agg [(i6 e.op),(dS e.name),(i6 e.k.n),(dS e.k.p),(i6 e.w.n),(dS e.w.p),(dL 7 (eA 2) dE e.args)]),(.iptr [(.str p.name),(.str p.clock),(.sl 13 jY bU p.NI),(.sl 27 t7 a6 p.NH),(.sl 9 oJ aD p.I),(.sl 16 nR an p.NG),(.sl 1 (ac .i64) 0 s.NI),(.sl 1 af [] s.NH),(.sl 1 (ac .i64) 0 data)] 0)],false,(i6 ((bC p s data e).1))⟩
theorem j7 (p:Pr) (s:Ps) (data:List Int) (e:Ex) {c:Sc} {v:Int} (ho:xz c p s data) (ht:eT c e=some v) (hd:fP e≤3):CC (AY p s data e):=by
 refine ap.vc (V:=TT 4 (CC (HG p s data 2 e)∧TT 8 (((bC p s data e).1)=((bC p s data e).1)∧True))) (.w 1 [(2,(HG p s data 2 e).O)]<|.e) Try.func30 rfl rfl rfl (by kernel_rfl) ?_
 exact tt ⟨(Cr ho 2 e _ ht hd),tt ⟨rfl,oK⟩⟩
abbrev JL (p:Pr) (s:Ps) (hs:List Hd) (rs:List Bool):Ct:=⟨12,[(IR p),(.agg [(LI s.NI),(nY s)]),(dL 2 cv aj hs),(LB rs)],true,(.agg [(dB ((aR p s hs rs).fires)),(LI (((aR p s hs rs).s).NI)),(dL 1 af [] (((aR p s hs rs).s).NH)),(LB ((aR p s hs rs).pops)),(dL 2 cv aj ((aR p s hs rs).NG))])⟩
abbrev gv (p:Pr) (s:Ps) (hs:List Hd) (rs:List Bool):Lp (Nat×List Int×List Bool×Bool):=M5 [2,3,8,9,10,11,12,13,46,47,48] 32 (fun (i:Nat) (Qc:List Int) (QE:List Bool) (Rf:Bool)=>⟨[(2,(dL 2 cv aj hs)),(3,(LB rs)),(8,(.ptr 2 0 0 0)),(9,(.ptr 10 0 0 0)),(10,rU),(11,(.ptr 21 0 0 0)),(12,(.own 25)),(13,(.own 29)),(46,(dL 9 oJ aD p.I)),(47,(i6 (p.I.length:Int))),(48,(i6 (i:Int)))],[(rV p),(wn s),wm,.dead,.dead,.dead,.dead,.dead,(.arr 3 1 (ac .i64) 0 Qc),.dead,(pT p s),.dead,.dead,.dead,.dead,.dead,.dead,.dead,.dead,.dead,.dead,(.var 65 [(dB Rf),(LI s.NI),(nY s),(LB (List.replicate p.I.length false)),(dL 2 cv aj (List.replicate p.NG.length aj))]),.dead,.dead,.dead,(.arr 4 1 ck false QE),.dead,.dead,.dead,(.arr 80 2 cv aj (List.replicate p.NG.length aj)),.dead,.dead]⟩) (fun (i:Nat) (Qc:List Int) (QE:List Bool) (Rf:Bool)=>i≤p.I.length∧Qc=eC (pN p s hs) (ue p) i∧QE=eC (oO p s hs) (List.replicate p.I.length false) i∧Rf=dC (j5 p s hs) i) (fun (i:Nat) (Qc:List Int) (QE:List Bool) (Rf:Bool)=>p.I.length-i)
abbrev jr (p:Pr) (s:Ps) (hs:List Hd) (rs:List Bool) (Qc:List Int) (QE:List Bool) (Rf:Bool):Lp (Nat×List Hd×Bool):=Hm [3,8,9,10,11,12,13,88,89,90] 32 (fun (m:Nat) (put:List Hd) (Q6:Bool)=>⟨[(3,(LB rs)),(8,(.ptr 2 0 0 0)),(9,(.ptr 10 0 0 0)),(10,rU),(11,(.ptr 21 0 0 0)),(12,(.own 25)),(13,(.own 29)),(88,(dL 16 nR an p.NG)),(89,(i6 (p.NG.length:Int))),(90,(i6 (m:Int)))],[(rV p),(wn s),wm,.dead,.dead,.dead,.dead,.dead,(.arr 3 1 (ac .i64) 0 Qc),.dead,(pT p s),.dead,.dead,.dead,.dead,.dead,.dead,.dead,.dead,.dead,.dead,(.var 65 [(dB Q6),(LI s.NI),(nY s),(LB (List.replicate p.I.length false)),(dL 2 cv aj (List.replicate p.NG.length aj))]),.dead,.dead,.dead,(.arr 4 1 ck false QE),.dead,.dead,.dead,(.arr 80 2 cv aj put),.dead,.dead]⟩) (fun (m:Nat) (put:List Hd) (Q6:Bool)=>m≤p.NG.length∧put=eC (nx p s hs) (List.replicate p.NG.length aj) m∧Q6=(Rf&&dC (nu p s hs rs) m)) (fun (m:Nat) (put:List Hd) (Q6:Bool)=>p.NG.length-m)
abbrev y5 (p:Pr) (s:Ps) (Qc:List Int) (QE:List Bool) (put:List Hd) (Q6:Bool):List ak:=[(rV p),(wn s),wm,.dead,.dead,.dead,.dead,.dead,(.arr 3 1 (ac .i64) 0 Qc),.dead,(pT p s),.dead,.dead,.dead,.dead,.dead,.dead,.dead,.dead,.dead,.dead,(.var 65 [(dB Q6),(LI s.NI),(nY s),(LB QE),(dL 2 cv aj put)]),.dead,.dead,.dead,.dead,.dead,.dead,.dead,.dead,.dead,.dead]
abbrev y6 (p:Pr) (s:Ps):List (Nat×D):=(CE p s)
abbrev pU (p:Pr) (s:Ps) (Qc:List Int) (QE:List Bool) (put:List Hd) (Q6:Bool) (Qa:Array Value):Lp (Nat):=lm [1,2,4,5,14,15,16] 37 (fun (i:Nat)=>⟨[(1,rU),(2,(.ptr 33 0 0 0)),(4,(.ptr 34 0 0 0)),(5,(.ptr 35 0 0 0)),(14,(dL 13 jY bU p.NI)),(15,(i6 (p.NI.length:Int))),(16,(i6 (i:Int)))],[(rV p),(wn s),wm,.dead,.dead,.dead,.dead,.dead,(.arr 3 1 (ac .i64) 0 Qc),.dead,(pT p s),.dead,.dead,.dead,.dead,.dead,.dead,.dead,.dead,.dead,.dead,(.var 65 [(dB Q6),(LI s.NI),(nY s),(LB QE),(dL 2 cv aj put)]),.dead,.dead,.dead,.dead,.dead,.dead,.dead,.dead,.dead,.dead,(.frame Qa (CE p s)),(pT p s),(.var 50 [.nils,.nils]),(.var 50 [(.own 36),.nils]),(.arr 3 1 (ac .i64) 0 (tab (fun z=>(bC p s Qc (p.NI.getD z bU).next).1) i))]⟩) (fun (i:Nat)=>i≤p.NI.length) (fun (i:Nat)=>p.NI.length-i)
abbrev lK (p:Pr) (s:Ps) (i:Nat) (Qc:List Int) (QE:List Bool) (put:List Hd) (Q6:Bool) (Qa:Array Value):Lp (Nat):=lm [1,2,4,5,32,33,34] 38 (fun (j:Nat)=>⟨[(1,rU),(2,(.ptr 33 0 0 0)),(4,(.ptr 34 0 0 0)),(5,(.ptr 35 0 0 0)),(32,(dL 27 t7 a6 p.NH)),(33,(i6 (p.NH.length:Int))),(34,(i6 (j:Int)))],[(rV p),(wn s),wm,.dead,.dead,.dead,.dead,.dead,(.arr 3 1 (ac .i64) 0 Qc),.dead,(pT p s),.dead,.dead,.dead,.dead,.dead,.dead,.dead,.dead,.dead,.dead,(.var 65 [(dB Q6),(LI s.NI),(nY s),(LB QE),(dL 2 cv aj put)]),.dead,.dead,.dead,.dead,.dead,.dead,.dead,.dead,.dead,.dead,(.frame Qa (CE p s)),(pT p s),(.var 50 [.nils,.nils]),(.var 50 [(.own 36),(.own 37)]),(.arr 3 1 (ac .i64) 0 (tab (fun z=>(bC p s Qc (p.NI.getD z bU).next).1) i)),(.arr 35 1 af [] (tab (yZ p s Qc) j))]⟩) (fun (j:Nat)=>j≤p.NH.length) (fun (j:Nat)=>p.NH.length-j)
abbrev pV (p:Pr) (s:Ps) (i:Nat) (Qc:List Int) (QE:List Bool) (put:List Hd) (Q6:Bool) (Qa:Array Value) (j:Nat):Lp (Nat×List Int):=yP [1,2,4,5,8,9,10,32,33,34,43,44] 40 (fun (k:Nat) (wd:List Int)=>⟨[(1,rU),(2,(.ptr 33 0 0 0)),(4,(.ptr 34 0 0 0)),(5,(.ptr 35 0 0 0)),(8,(i6 (j:Int))),(9,(.ptr 38 0 0 0)),(10,(.own 39)),(32,(dL 27 t7 a6 p.NH)),(33,(i6 (p.NH.length:Int))),(34,(i6 (j:Int))),(43,(i6 ((p.NH.getD j a6).NJ))),(44,(i6 (k:Int)))],[(rV p),(wn s),wm,.dead,.dead,.dead,.dead,.dead,(.arr 3 1 (ac .i64) 0 Qc),.dead,(pT p s),.dead,.dead,.dead,.dead,.dead,.dead,.dead,.dead,.dead,.dead,(.var 65 [(dB Q6),(LI s.NI),(nY s),(LB QE),(dL 2 cv aj put)]),.dead,.dead,.dead,.dead,.dead,.dead,.dead,.dead,.dead,.dead,(.frame Qa (CE p s)),(pT p s),(.var 50 [.nils,.nils]),(.var 50 [(.own 36),(.own 37)]),(.arr 3 1 (ac .i64) 0 (tab (fun z=>(bC p s Qc (p.NI.getD z bU).next).1) i)),(.arr 35 1 af [] (tab (yZ p s Qc) j)),(.var 108 [(dS ((p.NH.getD j a6).name)),(i6 ((p.NH.getD j a6).w)),(i6 ((p.NH.getD j a6).NJ)),(i6 (((p.NH.getD j a6).enable).op)),(dS (((p.NH.getD j a6).enable).name)),(i6 ((((p.NH.getD j a6).enable).k).n)),(dS ((((p.NH.getD j a6).enable).k).p)),(i6 ((((p.NH.getD j a6).enable).w).n)),(dS ((((p.NH.getD j a6).enable).w).p)),(dL 7 (eA 2) dE (((p.NH.getD j a6).enable).args)),(i6 (((p.NH.getD j a6).addr).op)),(dS (((p.NH.getD j a6).addr).name)),(i6 ((((p.NH.getD j a6).addr).k).n)),(dS ((((p.NH.getD j a6).addr).k).p)),(i6 ((((p.NH.getD j a6).addr).w).n)),(dS ((((p.NH.getD j a6).addr).w).p)),(dL 7 (eA 2) dE (((p.NH.getD j a6).addr).args)),(i6 (((p.NH.getD j a6).data).op)),(dS (((p.NH.getD j a6).data).name)),(i6 ((((p.NH.getD j a6).data).k).n)),(dS ((((p.NH.getD j a6).data).k).p)),(i6 ((((p.NH.getD j a6).data).w).n)),(dS ((((p.NH.getD j a6).data).w).p)),(dL 7 (eA 2) dE (((p.NH.getD j a6).data).args)),(i6 (((p.NH.getD j a6).rule).kind)),(dS (((p.NH.getD j a6).rule).src)),(i6 (((p.NH.getD j a6).rule).n))]),(.arr 3 1 (ac .i64) 0 wd)]⟩) (fun (k:Nat) (wd:List Int)=>(k:Int)≤(p.NH.getD j a6).NJ∧wd=eC (fun z=>(s.NH.getD j []).getD z 0) (List.replicate (p.NH.getD j a6).NJ.toNat (0:Int)) k∧(wd.length:Int)=(p.NH.getD j a6).NJ) (fun (k:Nat) (wd:List Int)=>(p.NH.getD j a6).NJ.toNat-k)
theorem un (p:Pr) (s:Ps) (hs:List Hd) (rs:List Bool) (hp:gt p) (VH:pP p s) (hh:AU p hs) (hrs:rs.length=p.NG.length):CC (JL p s hs rs):=by
 have ht1:=hp.tl
 have ht2:=hp.pl
 have ht3:=hp.rl
 have ht4:=hp.ml
 have ht5:=VH.ml
 have ht6:=VH.rl
 have hhl:=hh.l
 refine ap.vc (V:=TT 8 ((((0:Int)≤(p.I.length:Int)∧(p.I.length:Int)≤(p.I.length:Int)∧(p.I.length:Int)≤137438953472)∧(ue p).length=p.I.length∧∀x∈(ue p),dp [(i6 0)] ((ac .i64) x))∧TT 9 ((((0:Int)≤(p.I.length:Int)∧(p.I.length:Int)≤(p.I.length:Int)∧(p.I.length:Int)≤137438953472)∧(List.replicate p.I.length false).length=p.I.length∧∀x∈(List.replicate p.I.length false),dp [(dB false)] (ck x))∧TT 3 ((((0:Int)≤(p.NG.length:Int)∧(p.NG.length:Int)≤(p.NG.length:Int)∧(p.NG.length:Int)≤137438953472)∧(List.replicate p.NG.length aj).length=p.NG.length∧∀x∈(List.replicate p.NG.length aj),dp [(dB false),(i6 0)] (cv x))∧TT 6 ((((0:Int)≤(p.I.length:Int)∧(p.I.length:Int)≤(p.I.length:Int)∧(p.I.length:Int)≤137438953472)∧(List.replicate p.I.length false).length=p.I.length∧∀x∈(List.replicate p.I.length false),dp [(dB false)] (ck x))∧TT 3 ((((0:Int)≤(p.NG.length:Int)∧(p.NG.length:Int)≤(p.NG.length:Int)∧(p.NG.length:Int)≤137438953472)∧(List.replicate p.NG.length aj).length=p.NG.length∧∀x∈(List.replicate p.NG.length aj),dp [(dB false),(i6 0)] (cv x))∧TT 7 (GO (gv p s hs rs) (0,ue p,List.replicate p.I.length false,true) (∀i Qc QE Rf,(gv p s hs rs).inv (i,Qc,QE,Rf)→TT 1 (CD ((i:Int)<(p.I.length:Int)) (TT 1 (IX (i:Int) p.I.length∧TT 7 (CK (AY p s Qc ((p.I.getD i aD).when))∧TT 1 (CN (((bC p s Qc ((p.I.getD i aD).when)).1)=1) (W6 ((i+1:Nat):Int)∧TT 1 (AG (gv p s hs rs) (i,Qc,QE,Rf) (i+1,Qc,QE,Rf))) (TT 2 (IX (i:Int) QE.length∧(i<QE.length∧(QE.map ck).set i ((ck (QE.getD i false)).take 0++[(.bool true)]++(ck (QE.getD i false)).drop (0+1))=(QE.set i true).map ck)∧TT 2 (IX (i:Int) hs.length∧TT 2 (CB ((hs.getD i aj).has) (TT 5 (IX (i:Int) hs.length∧TT 2 (IX (i:Int) Qc.length∧(i<Qc.length∧(Qc.map (ac .i64)).set i (((ac .i64) (Qc.getD i 0)).take 0++[(.int .i64 ((hs.getD i aj).v))]++((ac .i64) (Qc.getD i 0)).drop (0+1))=(Qc.set i ((hs.getD i aj).v)).map (ac .i64))∧CS (Rf=true) (TT 2 ((True∧Rf=true)∧TT 2 (IX (i:Int) hs.length∧TT 5 (W6 ((i+1:Nat):Int)∧TT 1 (AG (gv p s hs rs) (i,Qc,QE,Rf) (i+1,Qc.set i ((hs.getD i aj).v),QE.set i true,(hs.getD i aj).has)))))) (TT 2 ((True∧Rf=false)∧TT 8 (W6 ((i+1:Nat):Int)∧TT 1 (AG (gv p s hs rs) (i,Qc,QE,Rf) (i+1,Qc.set i ((hs.getD i aj).v),QE.set i true,false)))))))) (CS (Rf=true) (TT 2 ((True∧Rf=true)∧TT 2 (IX (i:Int) hs.length∧TT 5 (W6 ((i+1:Nat):Int)∧TT 1 (AG (gv p s hs rs) (i,Qc,QE,Rf) (i+1,Qc,QE.set i true,(hs.getD i aj).has)))))) (TT 2 ((True∧Rf=false)∧TT 8 (W6 ((i+1:Nat):Int)∧TT 1 (AG (gv p s hs rs) (i,Qc,QE,Rf) (i+1,Qc,QE.set i true,false)))))))))))))) (TT 5 (GO (jr p s hs rs Qc QE Rf) (0,List.replicate p.NG.length aj,Rf) (∀m put Q6,(jr p s hs rs Qc QE Rf).inv (m,put,Q6)→TT 1 (CD ((m:Int)<(p.NG.length:Int)) (TT 1 (IX (m:Int) p.NG.length∧TT 7 (CK (AY p s Qc ((p.NG.getD m an).when))∧TT 1 (CN (((bC p s Qc ((p.NG.getD m an).when)).1)=1) (W6 ((m+1:Nat):Int)∧TT 1 (AG (jr p s hs rs Qc QE Rf) (m,put,Q6) (m+1,put,Q6))) (TT 5 (CK (AY p s Qc ((p.NG.getD m an).data))∧TT 1 (IX (m:Int) put.length∧(m<put.length∧(put.map cv).set m ((cv (put.getD m aj)).take 0++[(.bool true),(.int .i64 ((bC p s Qc ((p.NG.getD m an).data)).1))]++(cv (put.getD m aj)).drop (0+2))=(put.set m (⟨true,(bC p s Qc ((p.NG.getD m an).data)).1⟩:Hd)).map cv)∧CS (Q6=true) (TT 2 ((True∧Q6=true)∧TT 2 (IX (m:Int) rs.length∧TT 4 (W6 ((m+1:Nat):Int)∧TT 1 (AG (jr p s hs rs Qc QE Rf) (m,put,Q6) (m+1,put.set m (⟨true,(bC p s Qc ((p.NG.getD m an).data)).1⟩:Hd),(rs.getD m false))))))) (TT 2 ((True∧Q6=false)∧TT 7 (W6 ((m+1:Nat):Int)∧TT 1 (AG (jr p s hs rs Qc QE Rf) (m,put,Q6) (m+1,put.set m (⟨true,(bC p s Qc ((p.NG.getD m an).data)).1⟩:Hd),false)))))))))))) (TT 3 (CB (!Q6) (TT 3 (Q6=((aR p s hs rs).fires)∧s.NI.map (ac .i64)=(((aR p s hs rs).s).NI).map (ac .i64)∧s.NH.map af=(((aR p s hs rs).s).NH).map af∧(List.replicate p.I.length false).map ck=((aR p s hs rs).pops).map ck∧(List.replicate p.NG.length aj).map cv=((aR p s hs rs).NG).map cv∧True)) (TT 8 (G7 Try.prog 32 [(IQ p s),rU] (y5 p s Qc QE put Q6) (y6 p s) (.agg [(LI ((eB p s Qc).NI)),(dL 1 af [] ((eB p s Qc).NH))])∧TT 5 (Q6=((aR p s hs rs).fires)∧((eB p s Qc).NI).map (ac .i64)=(((aR p s hs rs).s).NI).map (ac .i64)∧((eB p s Qc).NH).map af=(((aR p s hs rs).s).NH).map af∧QE.map ck=((aR p s hs rs).pops).map ck∧put.map cv=((aR p s hs rs).NG).map cv∧True)))))))))))))))))) (.w 1 [(5,.box 3 1 (ac .i64) 0 (ue p))]<|.w 3 [(4,.frz 4 1 ck false (List.replicate p.I.length false)),(8,.frz 80 2 cv aj (List.replicate p.NG.length aj))]<|.w 4 [(3,.box 4 1 ck false (List.replicate p.I.length false)),(7,.box 80 2 cv aj (List.replicate p.NG.length aj))]<|.l (gv p s hs rs) (0,ue p,List.replicate p.I.length false,true) (fun ⟨i,Qc,QE,Rf⟩=>.b 49 (.q 8 [2,3,8,9,10,11,12,13,14,15,46,47,48] 33<|.w 8 [(3,(AY p s Qc ((p.I.getD i aD).when)).O')]<|.b 57 (.w 13 [(0,.val (i6 ((i+1:Nat):Int)))]<|.e) (.w 9 [(3,.box 4 1 ck false (QE.set i true))]<|.b 65 (.w 11 [(9,.box 3 1 (ac .i64) 0 (Qc.set i ((hs.getD i aj).v)))]<|.s 12 (Rf=true) (.w 12 [(2,.val (dB true))]<|.w 13 [(0,.val (i6 ((i+1:Nat):Int)))]<|.e) (.w 12 [(2,.val (dB false))]<|.w 13 [(0,.val (i6 ((i+1:Nat):Int)))]<|.e)) (.s 12 (Rf=true) (.w 12 [(2,.val (dB true))]<|.w 13 [(0,.val (i6 ((i+1:Nat):Int)))]<|.e) (.w 12 [(2,.val (dB false))]<|.w 13 [(0,.val (i6 ((i+1:Nat):Int)))]<|.e)))) (.l (jr p s hs rs Qc QE Rf) (0,List.replicate p.NG.length aj,Rf) (fun ⟨m,put,Q6⟩=>.b 91 (.q 17 [3,8,9,10,11,12,13,16,17,88,89,90] 33<|.w 17 [(3,(AY p s Qc ((p.NG.getD m an).when)).O')]<|.b 99 (.w 20 [(0,.val (i6 ((m+1:Nat):Int)))]<|.e) (.q 18 [3,8,9,10,11,12,13,16,17,88,89,90] 33<|.w 18 [(5,(AY p s Qc ((p.NG.getD m an).data)).O'),(8,.box 80 2 cv aj (put.set m (⟨true,(bC p s Qc ((p.NG.getD m an).data)).1⟩:Hd)))]<|.s 19 (Q6=true) (.w 19 [(2,.val (dB true))]<|.w 20 [(0,.val (i6 ((m+1:Nat):Int)))]<|.e) (.w 19 [(2,.val (dB false))]<|.w 20 [(0,.val (i6 ((m+1:Nat):Int)))]<|.e))) (.b 120 (.e) (.f 23 25<|.f 23 29<|.q 24 [8,9,10,11] 32<|.w 24 [(2,.inls (.agg [(LI ((eB p s Qc).NI)),(dL 1 af [] ((eB p s Qc).NH))]))]<|.e)))))) Try.func12 rfl rfl rfl (by kernel_rfl) ?_
 refine tt ⟨⟨by omega,j6,fun x hx=>by rw[Ol hx];exact⟨rfl,oK⟩⟩,tt ⟨⟨by omega,NR,fun x hx=>by rw[Ol hx];exact⟨rfl,oK⟩⟩,tt ⟨⟨by omega,NR,fun x hx=>by rw[Ol hx];exact⟨rfl,rfl,oK⟩⟩,tt ⟨⟨by omega,NR,fun x hx=>by rw[Ol hx];exact⟨rfl,oK⟩⟩,tt ⟨⟨by omega,NR,fun x hx=>by rw[Ol hx];exact⟨rfl,rfl,oK⟩⟩,tt ⟨rfl,⟨by omega,rfl,rfl,rfl⟩,?_⟩⟩⟩⟩⟩⟩
 intro i Qc QE Rf L'
 obtain⟨hi,Uc,QO,Si⟩:=L'
 have hda:AR p Qc:=by rw[Uc];exact JJ hp hh hi
 have ho:=lJ hp VH hda
 have hdl:Qc.length=p.I.length:=hda.l
 have Tn:QE.length=p.I.length:=by rw[QO,jq (by rw[NR];exact hi),NR]
 refine tt (cd (fun QT=>?_) (fun QT=>?_))
 · refine tt ⟨ix,?_⟩
   have hwh:=HO hp (show i<p.I.length by omega)
   refine tt ⟨⟨ey _ rfl,(j7 p s Qc ((p.I.getD i aD).when) ho hwh.1 hwh.2)⟩,tt (cn (fun UL=>?_) (fun UL=>?_))⟩
   · refine⟨w6,tt ⟨(i+1,Qc,QE,Rf),rfl,(?_:(i+1)≤p.I.length∧Qc=eC (pN p s hs) (ue p) (i+1)∧QE=eC (oO p s hs) (List.replicate p.I.length false) (i+1)∧Rf=dC (j5 p s hs) (i+1)),(?_:p.I.length-(i+1)<p.I.length-i)⟩⟩
     · obtain⟨k1,k2,k3⟩:=HM (hs:=hs) hp (show i<p.I.length by omega) UL
       exact⟨by omega,by rw[Uc];exact fQ (by rw[j6];omega) (by rw[k2,AW]),by rw[QO];exact fQ (d:=false) (by rw[NR];omega) (by rw[k1,gu]),uj Si _ (by rw[k3,PD])⟩
     · omega
   · refine tt ⟨ix,⟨⟨om,by simp only[OD];rfl⟩,tt ⟨ix,tt ⟨fun Ud=>?_,fun Ud=>?_⟩⟩⟩⟩
     · refine tt ⟨ix,tt ⟨ix,⟨⟨om,by simp only[OD];rfl⟩,⟨fun Qe=>?_,fun Qe=>?_⟩⟩⟩⟩
       · refine tt ⟨(bT Qe),tt ⟨ix,tt ⟨w6,tt ⟨(i+1,Qc.set i ((hs.getD i aj).v),QE.set i true,(hs.getD i aj).has),rfl,(?_:(i+1)≤p.I.length∧(Qc.set i ((hs.getD i aj).v))=eC (pN p s hs) (ue p) (i+1)∧(QE.set i true)=eC (oO p s hs) (List.replicate p.I.length false) (i+1)∧((hs.getD i aj).has)=dC (j5 p s hs) (i+1)),(?_:p.I.length-(i+1)<p.I.length-i)⟩⟩⟩⟩
         · obtain⟨k1,k2,k3⟩:=pR (hs:=hs) hp (show i<p.I.length by omega) (by simpa using UL)
           exact⟨by omega,by rw[Uc];exact dt (by rw[j6];omega) (by rw[k2,NT Ud]),by rw[QO];exact dt (by rw[NR];omega) k1,uj Si _ (by rw[k3];first | done | (clear Si;cases Rf<;>simp_all))⟩
         · omega
       · refine tt ⟨(bF Qe),tt ⟨w6,tt ⟨(i+1,Qc.set i ((hs.getD i aj).v),QE.set i true,false),rfl,(?_:(i+1)≤p.I.length∧(Qc.set i ((hs.getD i aj).v))=eC (pN p s hs) (ue p) (i+1)∧(QE.set i true)=eC (oO p s hs) (List.replicate p.I.length false) (i+1)∧false=dC (j5 p s hs) (i+1)),(?_:p.I.length-(i+1)<p.I.length-i)⟩⟩⟩
         · obtain⟨k1,k2,k3⟩:=pR (hs:=hs) hp (show i<p.I.length by omega) (by simpa using UL)
           exact⟨by omega,by rw[Uc];exact dt (by rw[j6];omega) (by rw[k2,NT Ud]),by rw[QO];exact dt (by rw[NR];omega) k1,uj Si _ (by rw[k3];first | done | (clear Si;cases Rf<;>simp_all))⟩
         · omega
     · refine⟨fun Qy=>?_,fun Qy=>?_⟩
       · refine tt ⟨(bT Qy),tt ⟨ix,tt ⟨w6,tt ⟨(i+1,Qc,QE.set i true,(hs.getD i aj).has),rfl,(?_:(i+1)≤p.I.length∧Qc=eC (pN p s hs) (ue p) (i+1)∧(QE.set i true)=eC (oO p s hs) (List.replicate p.I.length false) (i+1)∧((hs.getD i aj).has)=dC (j5 p s hs) (i+1)),(?_:p.I.length-(i+1)<p.I.length-i)⟩⟩⟩⟩
         · obtain⟨k1,k2,k3⟩:=pR (hs:=hs) hp (show i<p.I.length by omega) (by simpa using UL)
           exact⟨by omega,by rw[Uc];exact fQ (by rw[j6];omega) (by rw[k2,NQ (by rw[Ud];simp),AW]),by rw[QO];exact dt (by rw[NR];omega) k1,uj Si _ (by rw[k3];first | done | (clear Si;cases Rf<;>simp_all))⟩
         · omega
       · refine tt ⟨(bF Qy),tt ⟨w6,tt ⟨(i+1,Qc,QE.set i true,false),rfl,(?_:(i+1)≤p.I.length∧Qc=eC (pN p s hs) (ue p) (i+1)∧(QE.set i true)=eC (oO p s hs) (List.replicate p.I.length false) (i+1)∧false=dC (j5 p s hs) (i+1)),(?_:p.I.length-(i+1)<p.I.length-i)⟩⟩⟩
         · obtain⟨k1,k2,k3⟩:=pR (hs:=hs) hp (show i<p.I.length by omega) (by simpa using UL)
           exact⟨by omega,by rw[Uc];exact fQ (by rw[j6];omega) (by rw[k2,NQ (by rw[Ud];simp),AW]),by rw[QO];exact dt (by rw[NR];omega) k1,uj Si _ (by rw[k3];first | done | (clear Si;cases Rf<;>simp_all))⟩
         · omega
 · have SA:i=p.I.length:=by omega
   have hcu:Qc=iG p s hs:=by rw[Uc,SA];exact fR (by rw[j6];exact NN _)
   refine tt ⟨rfl,⟨by omega,rfl,by simp[dC]⟩,?_⟩
   intro m put Q6 L'
   obtain⟨hm,Q2,Ue⟩:=L'
   have Ry:put.length=p.NG.length:=by rw[Q2,jq (by rw[NR];exact hm),NR]
   refine tt (cd (fun hc91=>?_) (fun hc91=>?_))
   · refine tt ⟨ix,?_⟩
     have hpw:=hp.pw m (by omega)
     refine tt ⟨⟨ey _ rfl,(j7 p s Qc ((p.NG.getD m an).when) ho hpw.2.1.1 hpw.2.1.2)⟩,tt (cn (fun Td=>?_) (fun Td=>?_))⟩
     · refine⟨w6,tt ⟨(m+1,put,Q6),rfl,(?_:(m+1)≤p.NG.length∧put=eC (nx p s hs) (List.replicate p.NG.length aj) (m+1)∧Q6=(Rf&&dC (nu p s hs rs) (m+1))),(?_:p.NG.length-(m+1)<p.NG.length-m)⟩⟩
       · rw[hcu]at Td
         obtain⟨k1,k2⟩:=JK (rs:=rs) Td
         exact⟨by omega,by rw[Q2];exact fQ (d:=aj) (by rw[NR];omega) (by rw[k1,gu]),AX Ue _ (by rw[k2,PD])⟩
       · omega
     · refine tt ⟨⟨ey _ rfl,(j7 p s Qc ((p.NG.getD m an).data) ho hpw.2.2.1 hpw.2.2.2)⟩,tt ⟨ix,⟨⟨om,by simp only[OD];rfl⟩,⟨fun Ss=>?_,fun Ss=>?_⟩⟩⟩⟩
       · refine tt ⟨(bT Ss),tt ⟨ix,tt ⟨w6,tt ⟨(m+1,put.set m (⟨true,(bC p s Qc ((p.NG.getD m an).data)).1⟩:Hd),(rs.getD m false)),rfl,(?_:(m+1)≤p.NG.length∧(put.set m (⟨true,(bC p s Qc ((p.NG.getD m an).data)).1⟩:Hd))=eC (nx p s hs) (List.replicate p.NG.length aj) (m+1)∧(rs.getD m false)=(Rf&&dC (nu p s hs rs) (m+1))),(?_:p.NG.length-(m+1)<p.NG.length-m)⟩⟩⟩⟩
         · rw[hcu]at Td
           obtain⟨k1,k2⟩:=Cy (rs:=rs) (by simpa using Td)
           exact⟨by omega,by rw[Q2];exact dt (by rw[NR];omega) (by rw[k1,hcu]),AX Ue _ (by rw[k2];first | done | (clear Ue Si;cases Q6<;>simp_all))⟩
         · omega
       · refine tt ⟨(bF Ss),tt ⟨w6,tt ⟨(m+1,put.set m (⟨true,(bC p s Qc ((p.NG.getD m an).data)).1⟩:Hd),false),rfl,(?_:(m+1)≤p.NG.length∧(put.set m (⟨true,(bC p s Qc ((p.NG.getD m an).data)).1⟩:Hd))=eC (nx p s hs) (List.replicate p.NG.length aj) (m+1)∧false=(Rf&&dC (nu p s hs rs) (m+1))),(?_:p.NG.length-(m+1)<p.NG.length-m)⟩⟩⟩
         · rw[hcu]at Td
           obtain⟨k1,k2⟩:=Cy (rs:=rs) (by simpa using Td)
           exact⟨by omega,by rw[Q2];exact dt (by rw[NR];omega) (by rw[k1,hcu]),AX Ue _ (by rw[k2];first | done | (clear Ue Si;cases Q6<;>simp_all))⟩
         · omega
   · have hme:m=p.NG.length:=by omega
     refine tt ⟨fun Tv=>?_,fun Tv=>?_⟩
     · refine tt ⟨?_,(congrArg _ (?_:s.NI=(((aR p s hs rs).s).NI))),(congrArg _ (?_:s.NH=(((aR p s hs rs).s).NH))),(congrArg _ (?_:(List.replicate p.I.length false)=((aR p s hs rs).pops))),(congrArg _ (?_:(List.replicate p.NG.length aj)=((aR p s hs rs).NG))),oK⟩
       all_goals
         rw[Cz (by rw[wk (rs:=rs) (a:=Rf) (b:=Q6) (by rw[Si,SA]) (by rw[Ue,hme])];simpa using Tv)]
         first | done | rfl | simpa using Tv
     · refine tt ⟨?_,?_⟩
       · intro Qa
         refine gj.vc (V:=TT 8 (GO (pU p s Qc QE put Q6 Qa) 0 (∀i,(pU p s Qc QE put Q6 Qa).inv i→TT 1 (CD ((i:Int)<(p.NI.length:Int)) (IX (i:Int) p.NI.length∧TT 8 (CK (AY p s Qc ((p.NI.getD i bU).next))∧av [[(i6 ((bC p s Qc ((p.NI.getD i bU).next)).1))]] ([(bC p s Qc ((p.NI.getD i bU).next)).1].map (ac .i64))∧((tab (fun z=>(bC p s Qc (p.NI.getD z bU).next).1) i).length+([(bC p s Qc ((p.NI.getD i bU).next)).1].map (ac .i64)).length≤137438953472∧(tab (fun z=>(bC p s Qc (p.NI.getD z bU).next).1) i).map (ac .i64)++[(bC p s Qc ((p.NI.getD i bU).next)).1].map (ac .i64)=(tab (fun z=>(bC p s Qc (p.NI.getD z bU).next).1) (i+1)).map (ac .i64))∧TT 2 (W6 ((i+1:Nat):Int)∧TT 1 (AG (pU p s Qc QE put Q6 Qa) i (i+1))))) (TT 5 (GO (lK p s i Qc QE put Q6 Qa) 0 (∀j,(lK p s i Qc QE put Q6 Qa).inv j→TT 1 (CD ((j:Int)<(p.NH.length:Int)) (TT 1 (IX (j:Int) p.NH.length∧TT 6 ((((0:Int)≤(p.NH.getD j a6).NJ∧(p.NH.getD j a6).NJ≤(p.NH.getD j a6).NJ∧(p.NH.getD j a6).NJ≤137438953472)∧(List.replicate (p.NH.getD j a6).NJ.toNat (0:Int)).length=((p.NH.getD j a6).NJ).toNat∧∀x∈(List.replicate (p.NH.getD j a6).NJ.toNat (0:Int)),dp [(i6 0)] ((ac .i64) x))∧TT 4 (GO (pV p s i Qc QE put Q6 Qa j) (0,List.replicate (p.NH.getD j a6).NJ.toNat (0:Int)) (∀k wd,(pV p s i Qc QE put Q6 Qa j).inv (k,wd)→TT 1 (CD ((k:Int)<((p.NH.getD j a6).NJ)) (TT 8 (IX (j:Int) s.NH.length∧TT 2 (IX (k:Int) ((s.NH.getD j []).length)∧TT 1 (IX (k:Int) wd.length∧(k<wd.length∧(wd.map (ac .i64)).set k (((ac .i64) (wd.getD k 0)).take 0++[(.int .i64 ((s.NH.getD j []).getD k 0))]++((ac .i64) (wd.getD k 0)).drop (0+1))=(wd.set k ((s.NH.getD j []).getD k 0)).map (ac .i64))∧W6 ((k+1:Nat):Int)∧TT 1 (AG (pV p s i Qc QE put Q6 Qa j) (k,wd) (k+1,wd.set k ((s.NH.getD j []).getD k 0))))))) (TT 3 (CK (AY p s Qc ((p.NH.getD j a6).enable))∧TT 1 (CD (((bC p s Qc ((p.NH.getD j a6).enable)).1)=1) (TT 4 (CK (AY p s Qc ((p.NH.getD j a6).addr))∧TT 2 (((p.NH.getD j a6).NJ)≠0∧TT 3 (CK (AY p s Qc ((p.NH.getD j a6).data))∧IX (Int.tmod ((bC p s Qc ((p.NH.getD j a6).addr)).1) ((p.NH.getD j a6).NJ)) wd.length∧((Int.tmod ((bC p s Qc ((p.NH.getD j a6).addr)).1) ((p.NH.getD j a6).NJ)).toNat<wd.length∧(wd.map (ac .i64)).set ((Int.tmod ((bC p s Qc ((p.NH.getD j a6).addr)).1) ((p.NH.getD j a6).NJ)).toNat) (((ac .i64) (wd.getD ((Int.tmod ((bC p s Qc ((p.NH.getD j a6).addr)).1) ((p.NH.getD j a6).NJ)).toNat) 0)).take 0++[(.int .i64 ((bC p s Qc ((p.NH.getD j a6).data)).1))]++((ac .i64) (wd.getD ((Int.tmod ((bC p s Qc ((p.NH.getD j a6).addr)).1) ((p.NH.getD j a6).NJ)).toNat) 0)).drop (0+1))=(wd.set ((Int.tmod ((bC p s Qc ((p.NH.getD j a6).addr)).1) ((p.NH.getD j a6).NJ)).toNat) ((bC p s Qc ((p.NH.getD j a6).data)).1)).map (ac .i64))∧TT 3 (av [[(LI (wd.set ((Int.tmod ((bC p s Qc ((p.NH.getD j a6).addr)).1) ((p.NH.getD j a6).NJ)).toNat) ((bC p s Qc ((p.NH.getD j a6).data)).1)))]] ([wd.set ((Int.tmod ((bC p s Qc ((p.NH.getD j a6).addr)).1) ((p.NH.getD j a6).NJ)).toNat) ((bC p s Qc ((p.NH.getD j a6).data)).1)].map af)∧((tab (yZ p s Qc) j).length+([wd.set ((Int.tmod ((bC p s Qc ((p.NH.getD j a6).addr)).1) ((p.NH.getD j a6).NJ)).toNat) ((bC p s Qc ((p.NH.getD j a6).data)).1)].map af).length≤137438953472∧(tab (yZ p s Qc) j).map af++[wd.set ((Int.tmod ((bC p s Qc ((p.NH.getD j a6).addr)).1) ((p.NH.getD j a6).NJ)).toNat) ((bC p s Qc ((p.NH.getD j a6).data)).1)].map af=(tab (yZ p s Qc) (j+1)).map af)∧TT 2 (W6 ((j+1:Nat):Int)∧TT 1 (AG (lK p s i Qc QE put Q6 Qa) j (j+1)))))))) (TT 3 (av [[(LI wd)]] ([wd].map af)∧((tab (yZ p s Qc) j).length+([wd].map af).length≤137438953472∧(tab (yZ p s Qc) j).map af++[wd].map af=(tab (yZ p s Qc) (j+1)).map af)∧TT 2 (W6 ((j+1:Nat):Int)∧TT 1 (AG (lK p s i Qc QE put Q6 Qa) j (j+1)))))))))))))) (TT 3 ((((tab (fun z=>(bC p s Qc (p.NI.getD z bU).next).1) i).map (ac .i64)=((eB p s Qc).NI).map (ac .i64)∧(tab (yZ p s Qc) j).map af=((eB p s Qc).NH).map af∧True))∧HE ((y5 p s Qc QE put Q6)++[.frame Qa (y6 p s)]))))))))))) (.g 2 35 0 3 1 (ac .i64) 0<|.l (pU p s Qc QE put Q6 Qa) 0 (fun i=>.b 17 (.w 5 [(5,(AY p s Qc ((p.NI.getD i bU).next)).O'),(6,.box 3 1 (ac .i64) 0 [(bC p s Qc ((p.NI.getD i bU).next)).1]),(7,.box 3 1 (ac .i64) 0 (tab (fun z=>(bC p s Qc (p.NI.getD z bU).next).1) (i+1)))]<|.w 6 [(0,.val (i6 ((i+1:Nat):Int)))]<|.e) (.g 7 35 1 35 1 af []<|.l (lK p s i Qc QE put Q6 Qa) 0 (fun j=>.b 35 (.w 10 [(2,.box 3 1 (ac .i64) 0 (List.replicate (p.NH.getD j a6).NJ.toNat (0:Int)))]<|.l (pV p s i Qc QE put Q6 Qa j) (0,List.replicate (p.NH.getD j a6).NJ.toNat (0:Int)) (fun ⟨k,wd⟩=>.b 45 (.w 14 [(12,.box 3 1 (ac .i64) 0 (wd.set k ((s.NH.getD j []).getD k 0)))]<|.w 15 [(0,.val (i6 ((k+1:Nat):Int)))]<|.e) (.w 16 [(3,(AY p s Qc ((p.NH.getD j a6).enable)).O')]<|.b 64 (.w 17 [(4,(AY p s Qc ((p.NH.getD j a6).addr)).O'),(11,(AY p s Qc ((p.NH.getD j a6).data)).O'),(13,.box 3 1 (ac .i64) 0 (wd.set ((Int.tmod ((bC p s Qc ((p.NH.getD j a6).addr)).1) ((p.NH.getD j a6).NJ)).toNat) ((bC p s Qc ((p.NH.getD j a6).data)).1)))]<|.f 18 39<|.w 18 [(3,.box 35 1 af [] [wd.set ((Int.tmod ((bC p s Qc ((p.NH.getD j a6).addr)).1) ((p.NH.getD j a6).NJ)).toNat) ((bC p s Qc ((p.NH.getD j a6).data)).1)]),(4,.box 35 1 af [] (tab (yZ p s Qc) (j+1)))]<|.w 19 [(0,.val (i6 ((j+1:Nat):Int)))]<|.e) (.f 18 39<|.w 18 [(3,.box 35 1 af [] [wd]),(4,.box 35 1 af [] (tab (yZ p s Qc) (j+1)))]<|.w 19 [(0,.val (i6 ((j+1:Nat):Int)))]<|.e)))) (.f 20 36<|.f 20 37<|.e))))) Try.func32 rfl rfl (by kernel_rfl) ?_
         refine tt ⟨rfl,(by omega),?_⟩
         intro i L'
         have hi:=L'
         refine tt (cd (fun Tu=>?_) (fun Tu=>?_))
         · refine⟨ix,?_⟩
           have hrn:=hp.rw i (by omega)
           refine tt ⟨⟨ey _ rfl,(j7 p s Qc ((p.NI.getD i bU).next) ho hrn.2.2.1 hrn.2.2.2)⟩,⟨⟨⟨rfl,oK⟩,oK⟩,⟨(mH (f:=fun z=>(bC p s Qc (p.NI.getD z bU).next).1) (by omega)),tt ⟨w6,tt ⟨(i+1),rfl,(?_:(i+1)≤p.NI.length),(?_:p.NI.length-(i+1)<p.NI.length-i)⟩⟩⟩⟩⟩
           · omega
           · omega
         · refine tt ⟨rfl,(by omega),?_⟩
           intro j L'
           have hj:=L'
           refine tt (cd (fun hc35=>?_) (fun hc35=>?_))
           · have UU:1≤(p.NH.getD j a6).NJ∧(p.NH.getD j a6).NJ≤4:=(hp.mw j (by omega)).2.1
             have hml:((s.NH.getD j []).length:Int)=(p.NH.getD j a6).NJ:=VH.mn j (by omega)
             have hme:=(hp.mw j (by omega)).2.2.1
             have hmb:=(hp.mw j (by omega)).2.2.2
             obtain⟨va,hma⟩:=hmb.1.1
             have had:0≤Int.tmod (bC p s Qc (p.NH.getD j a6).addr).1 (p.NH.getD j a6).NJ∧Int.tmod (bC p s Qc (p.NH.getD j a6).addr).1 (p.NH.getD j a6).NJ<(s.NH.getD j []).length∧(p.NH.getD j a6).NJ≠0:=HQ hp VH hda (show j<p.NH.length by omega)
             refine tt ⟨ix,tt ⟨⟨by omega,NR,fun x hx=>by rw[Ol hx];exact⟨rfl,oK⟩⟩,tt ⟨rfl,⟨by omega,rfl,by rw[NR];omega⟩,?_⟩⟩⟩
             intro k wd L'
             obtain⟨hk,hwd,Tj⟩:=L'
             refine tt (cd (fun hc45=>?_) (fun hc45=>?_))
             · refine tt ⟨ix,tt ⟨ix,tt ⟨ix,⟨⟨om,by simp only[OD];rfl⟩,⟨w6,tt ⟨(k+1,wd.set k ((s.NH.getD j []).getD k 0)),rfl,?_,(?_:(p.NH.getD j a6).NJ.toNat-(k+1)<(p.NH.getD j a6).NJ.toNat-k)⟩⟩⟩⟩⟩⟩
               · exact⟨by omega,by rw[hwd];exact dt (by rw[NR];omega) rfl,by rw[Ok];exact Tj⟩
               · omega
             · have Uy:wd=s.NH.getD j []:=by
                 rw[hwd,show k=(List.replicate (p.NH.getD j a6).NJ.toNat (0:Int)).length by rw[NR];omega]
                 exact FR (by rw[NR];omega)
               refine tt ⟨⟨ey _ rfl,(j7 p s Qc ((p.NH.getD j a6).enable) ho hme.1 hme.2)⟩,tt (cd (fun Vl=>?_) (fun Vl=>?_))⟩
               · refine tt ⟨⟨ey _ rfl,(j7 p s Qc ((p.NH.getD j a6).addr) ho hma hmb.1.2)⟩,tt ⟨om,tt ⟨⟨ey _ rfl,(j7 p s Qc ((p.NH.getD j a6).data) ho hmb.2.1 hmb.2.2)⟩,⟨ix,⟨⟨om,by simp only[OD];rfl⟩,tt ⟨⟨⟨rfl,oK⟩,oK⟩,⟨(ba (by omega) (by rw[Uy];first | exact FS (sS Vl) | exact IP (by rw[xC Vl];simp))),tt ⟨w6,tt ⟨(j+1),rfl,(?_:(j+1)≤p.NH.length),(?_:p.NH.length-(j+1)<p.NH.length-j)⟩⟩⟩⟩⟩⟩⟩⟩⟩
                 · omega
                 · omega
               · refine tt ⟨⟨⟨rfl,oK⟩,oK⟩,⟨(ba (by omega) (by rw[Uy];first | exact FS (sS Vl) | exact IP (by rw[xC Vl];simp))),tt ⟨w6,tt ⟨(j+1),rfl,(?_:(j+1)≤p.NH.length),(?_:p.NH.length-(j+1)<p.NH.length-j)⟩⟩⟩⟩
                 · omega
                 · omega
           · refine tt ⟨⟨(congrArg _ (?_:(tab (fun z=>(bC p s Qc (p.NI.getD z bU).next).1) i)=((eB p s Qc).NI))),(congrArg _ (?_:(tab (yZ p s Qc) j)=((eB p s Qc).NH))),oK⟩,rfl⟩
             · rw[show i=p.NI.length by omega];rfl
             · rw[show j=p.NH.length by omega];rfl
       refine tt ⟨?_,(congrArg _ (?_:((eB p s Qc).NI)=(((aR p s hs rs).s).NI))),(congrArg _ (?_:((eB p s Qc).NH)=(((aR p s hs rs).s).NH))),(congrArg _ (?_:QE=((aR p s hs rs).pops))),(congrArg _ (?_:put=((aR p s hs rs).NG))),oK⟩
       all_goals
         rw[HN (by rw[wk (rs:=rs) (a:=Rf) (b:=Q6) (by rw[Si,SA]) (by rw[Ue,hme])];simpa using Tv)]
         first | done | (simpa using Tv) | (rw[hcu]) | (rw[QO,SA,fR (by rw[NR];exact NN _)]) | (rw[Q2,hme,fR (by rw[NR];exact NN _)])
end Go.Proofs.Ytcejcppjedhicaa
