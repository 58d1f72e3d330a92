/-
  Package bits: the tables of operators; Width, Apply.
-/
import Derived.Test.YtckgpflobhpnpaaGreatQVbB
namespace Go.Proofs.YtckgpflobhpnpaaGreat
open Go.RowKit
set_option linter.unusedVariables false
set_option linter.unusedSimpArgs false
abbrev dM:aq:=(.var 216 [(i6 0),(.v .nilf),(.v .nilf)])
abbrev aU (op:Int):D:=(i6 (bH op))
abbrev cu:D:=(.ptr 1 0 0 0)
abbrev cC:D:=(.ptr 2 0 0 0)
set_option maxRecDepth 100000
def eK:List (Int×Value):=[(2,.agg #[.int .i64 1,.func (.func 127) #[] #[],.func (.func 128) #[] #[]]),(3,.agg #[.int .i64 2,.func (.func 130) #[] #[],.func (.func 131) #[] #[]]),(4,.agg #[.int .i64 2,.func (.func 130) #[] #[],.func (.func 132) #[] #[]]),(5,.agg #[.int .i64 2,.func (.func 130) #[] #[],.func (.func 133) #[] #[]]),(6,.agg #[.int .i64 2,.func (.func 130) #[] #[],.func (.func 134) #[] #[]]),(7,.agg #[.int .i64 2,.func (.func 130) #[] #[],.func (.func 135) #[] #[]]),(8,.agg #[.int .i64 2,.func (.func 136) #[] #[],.func (.func 137) #[] #[]]),(9,.agg #[.int .i64 2,.func (.func 136) #[] #[],.func (.func 139) #[] #[]])]
set_option maxHeartbeats 800000 in
theorem xQ (w:World):Calls Tryz.prog 123 #[] w (fun e w'=>∃arr:Array MapEntry,e=.returned (.map (some w.heap.size))∧w'=w.alloc (.map arr 8)∧arr.toList.map (fun e=>(e.key,e.val))=eK.map (fun e=>(Value.int .i64 e.1,e.2))):=by
  go_enter Tryz.func123,Tryz.ntmps123
  go_wp2_with (first | (rw[sN]) | (rw[uT Tryz.underlying227 Tryz.underlying3 (by rfl)]))
  go_ret
  exact⟨_,rfl,rfl,rfl⟩
abbrev xR:Ct:=⟨123,[],false,.v (.mp eK)⟩
theorem nC:CC xR:=ai.of_map xQ
def fo:List (Int×Value):=[(1,.agg #[.int .i64 0,.func (.func 140) #[] #[],.func (.func 141) #[] #[]]),(10,.agg #[.int .i64 3,.func (.func 142) #[] #[],.func (.func 143) #[] #[]]),(11,.agg #[.int .i64 2,.func (.func 144) #[] #[],.func (.func 145) #[] #[]]),(12,.agg #[.int .i64 1,.func (.func 146) #[] #[],.func (.func 147) #[] #[]]),(13,.agg #[.int .i64 1,.func (.func 148) #[] #[],.func (.func 149) #[] #[]])]
set_option maxHeartbeats 800000 in
theorem xS (w:World):Calls Tryz.prog 124 #[] w (fun e w'=>∃arr:Array MapEntry,e=.returned (.map (some w.heap.size))∧w'=w.alloc (.map arr 5)∧arr.toList.map (fun e=>(e.key,e.val))=fo.map (fun e=>(Value.int .i64 e.1,e.2))):=by
  go_enter Tryz.func124,Tryz.ntmps124
  go_wp2_with (first | (rw[sN]) | (rw[uT Tryz.underlying227 Tryz.underlying3 (by rfl)]))
  go_ret
  exact⟨_,rfl,rfl,rfl⟩
abbrev A5:Ct:=⟨124,[],false,.v (.mp fo)⟩
theorem sa:CC A5:=ai.of_map xS
def dC (op:Int):Nat :=
  if op=1 then 140 else
  if op=2 then 127 else
  if op=3 then 130 else
  if op=4 then 130 else
  if op=5 then 130 else
  if op=6 then 130 else
  if op=7 then 130 else
  if op=8 then 136 else
  if op=9 then 136 else
  if op=10 then 142 else
  if op=11 then 144 else
  if op=12 then 146 else
  if op=13 then 148 else 0
def dD (op:Int):Nat :=
  if op=1 then 141 else
  if op=2 then 128 else
  if op=3 then 131 else
  if op=4 then 132 else
  if op=5 then 133 else
  if op=6 then 134 else
  if op=7 then 135 else
  if op=8 then 137 else
  if op=9 then 139 else
  if op=10 then 143 else
  if op=11 then 145 else
  if op=12 then 147 else
  if op=13 then 149 else 0
abbrev cW (op:Int) (ws xs:List Int) (k w:Int):Ct:=⟨dC op,[(.agg [(LI ws),(LI xs),(i6 k),(i6 w)])],false,i6 (bj op ws k w)⟩
abbrev cV (op:Int) (ws xs:List Int) (k w:Int):Ct:=⟨dD op,[(.agg [(LI ws),(LI xs),(i6 k),(i6 w)])],false,i6 (oQ op ws xs k w)⟩
theorem uV {op:Int} {ws:List Int} (h:zt op ws=true):op=1∨op=2∨op=3∨op=4∨op=5∨op=6∨op=7∨op=8∨op=9∨op=10∨op=11∨op=12∨op=13:=by
  have h1:=(xO h).1
  by_cases hr:op<1∨13<op
  · have:bH op=-1:=by unfold bH;rw[if_neg (by omega),if_neg (by omega),if_neg (by omega),if_neg (by omega)]
    omega
  · omega
theorem Jp (op:Int) (ws xs:List Int) (k w:Int) (h:zt op ws=true):GC (cW op ws xs k w):=by
  obtain⟨h1,hf⟩:=xO h
  rcases uV h with rfl | rfl | rfl | rfl | rfl | rfl | rfl | rfl | rfl | rfl | rfl | rfl | rfl
  · (have hl:(ws.length:Int)=0:=h1);exact⟨by kernel_rfl,D8 ws xs k w (by omega) hf⟩
  · (have hl:(ws.length:Int)=1:=h1);exact⟨by kernel_rfl,FR ws xs k w (by omega) hf⟩
  · (have hl:(ws.length:Int)=2:=h1);exact⟨by kernel_rfl,jX ws xs k w (by omega) hf⟩
  · (have hl:(ws.length:Int)=2:=h1);exact⟨by kernel_rfl,jX ws xs k w (by omega) hf⟩
  · (have hl:(ws.length:Int)=2:=h1);exact⟨by kernel_rfl,jX ws xs k w (by omega) hf⟩
  · (have hl:(ws.length:Int)=2:=h1);exact⟨by kernel_rfl,jX ws xs k w (by omega) hf⟩
  · (have hl:(ws.length:Int)=2:=h1);exact⟨by kernel_rfl,jX ws xs k w (by omega) hf⟩
  · (have hl:(ws.length:Int)=2:=h1);exact⟨by kernel_rfl,FS ws xs k w (by omega) hf⟩
  · (have hl:(ws.length:Int)=2:=h1);exact⟨by kernel_rfl,FS ws xs k w (by omega) hf⟩
  · (have hl:(ws.length:Int)=3:=h1);exact⟨by kernel_rfl,Ih ws xs k w (by omega) hf⟩
  · (have hl:(ws.length:Int)=2:=h1);exact⟨by kernel_rfl,Ii ws xs k w (by omega) hf⟩
  · (have hl:(ws.length:Int)=1:=h1);exact⟨by kernel_rfl,D9 ws xs k w (by omega) hf⟩
  · (have hl:(ws.length:Int)=1:=h1);exact⟨by kernel_rfl,Ij ws xs k w (by omega) hf⟩
theorem Ma (op:Int) (ws xs:List Int) (k w:Int) (h:oP op ws k w=true) (hx:xs.length=ws.length) (hin:D6 ws xs=true):GC (cV op ws xs k w):=by
  obtain⟨h1,hf,h3⟩:=r9 h
  have hb:zt op ws=true:=by unfold zt;rw[decide_eq_true h1,hf];rfl
  rcases uV hb with rfl | rfl | rfl | rfl | rfl | rfl | rfl | rfl | rfl | rfl | rfl | rfl | rfl
  · (have hl:(ws.length:Int)=0:=h1);exact⟨by kernel_rfl,FT ws xs k w ⟨by omega,hf,hx,hin⟩⟩
  · (have hl:(ws.length:Int)=1:=h1);exact⟨by kernel_rfl,Ke ws xs k w ⟨by omega,hf,hx,hin⟩⟩
  · (have hl:(ws.length:Int)=2:=h1);exact⟨by kernel_rfl,Kf ws xs k w ⟨by omega,hf,hx,hin⟩⟩
  · (have hl:(ws.length:Int)=2:=h1);exact⟨by kernel_rfl,L7 ws xs k w ⟨by omega,hf,hx,hin⟩⟩
  · (have hl:(ws.length:Int)=2:=h1);exact⟨by kernel_rfl,Kg ws xs k w ⟨by omega,hf,hx,hin⟩⟩
  · (have hl:(ws.length:Int)=2:=h1);exact⟨by kernel_rfl,Kh ws xs k w ⟨by omega,hf,hx,hin⟩⟩
  · (have hl:(ws.length:Int)=2:=h1);exact⟨by kernel_rfl,Ki ws xs k w ⟨by omega,hf,hx,hin⟩⟩
  · (have hl:(ws.length:Int)=2:=h1);exact⟨by kernel_rfl,L8 ws xs k w ⟨by omega,hf,hx,hin⟩⟩
  · (have hl:(ws.length:Int)=2:=h1);exact⟨by kernel_rfl,L9 ws xs k w ⟨by omega,hf,hx,hin⟩⟩
  · (have hl:(ws.length:Int)=3:=h1);exact⟨by kernel_rfl,Kk ws xs k w ⟨by omega,hf,hx,hin⟩ (CH h)⟩
  · (have hl:(ws.length:Int)=2:=h1);exact⟨by kernel_rfl,Kl ws xs k w ⟨by omega,hf,hx,hin⟩⟩
  · (have hl:(ws.length:Int)=1:=h1);exact⟨by kernel_rfl,FU ws xs k w ⟨by omega,hf,hx,hin⟩ (CI h)⟩
  · (have hl:(ws.length:Int)=1:=h1);exact⟨by kernel_rfl,Kj ws xs k w ⟨by omega,hf,hx,hin⟩⟩
theorem uW {op:Int} (h:op=2∨op=3∨op=4∨op=5∨op=6∨op=7∨op=8∨op=9):∃(j:Nat) (e:Int×Value),eK[j]?=some e∧op=e.1∧(∀e'∈eK.take j,op≠e'.1)∧ql (D.ofVal e.2) (.agg [(aU op),(.fn (.func (dC op)) [] []),(.fn (.func (dD op)) [] [])]):=by
  rcases h with rfl | rfl | rfl | rfl | rfl | rfl | rfl | rfl
  · exact⟨0,_,rfl,rfl,by decide,⟨rfl,rfl,rfl,oK⟩⟩
  · exact⟨1,_,rfl,rfl,by decide,⟨rfl,rfl,rfl,oK⟩⟩
  · exact⟨2,_,rfl,rfl,by decide,⟨rfl,rfl,rfl,oK⟩⟩
  · exact⟨3,_,rfl,rfl,by decide,⟨rfl,rfl,rfl,oK⟩⟩
  · exact⟨4,_,rfl,rfl,by decide,⟨rfl,rfl,rfl,oK⟩⟩
  · exact⟨5,_,rfl,rfl,by decide,⟨rfl,rfl,rfl,oK⟩⟩
  · exact⟨6,_,rfl,rfl,by decide,⟨rfl,rfl,rfl,oK⟩⟩
  · exact⟨7,_,rfl,rfl,by decide,⟨rfl,rfl,rfl,oK⟩⟩
theorem uX {op:Int} (h:¬(op=2∨op=3∨op=4∨op=5∨op=6∨op=7∨op=8∨op=9)):∀e'∈eK,op≠e'.1:=by
  intro e' he'
  simp only[eK,List.mem_cons,List.not_mem_nil,or_false]at he'
  rcases he' with rfl | rfl | rfl | rfl | rfl | rfl | rfl | rfl<;>simp only[ne_eq]<;>omega
theorem uY {op:Int} (h:op=1∨op=10∨op=11∨op=12∨op=13):∃(j:Nat) (e:Int×Value),fo[j]?=some e∧op=e.1∧(∀e'∈fo.take j,op≠e'.1)∧ql (D.ofVal e.2) (.agg [(aU op),(.fn (.func (dC op)) [] []),(.fn (.func (dD op)) [] [])]):=by
  rcases h with rfl | rfl | rfl | rfl | rfl
  · exact⟨0,_,rfl,rfl,by decide,⟨rfl,rfl,rfl,oK⟩⟩
  · exact⟨1,_,rfl,rfl,by decide,⟨rfl,rfl,rfl,oK⟩⟩
  · exact⟨2,_,rfl,rfl,by decide,⟨rfl,rfl,rfl,oK⟩⟩
  · exact⟨3,_,rfl,rfl,by decide,⟨rfl,rfl,rfl,oK⟩⟩
  · exact⟨4,_,rfl,rfl,by decide,⟨rfl,rfl,rfl,oK⟩⟩
theorem A6 {op:Int} (h:¬(op=1∨op=10∨op=11∨op=12∨op=13)):∀e'∈fo,op≠e'.1:=by
  intro e' he'
  simp only[fo,List.mem_cons,List.not_mem_nil,or_false]at he'
  rcases he' with rfl | rfl | rfl | rfl | rfl<;>simp only[ne_eq]<;>omega
abbrev Eb (op:Int) (ws xs:List Int) (k w:Int):Ct:=⟨117,[(i6 op),(.agg [(LI ws),(LI xs),(i6 k),(i6 w)])],true,(.tup [(.agg [(aU op),(.fn (.func (dC op)) [] []),(.fn (.func (dD op)) [] [])]),(i6 (bj op ws k w)),(dB (ax (bj op ws k w)))])⟩
def mt (op:Int) (ws:List Int) (xs:List Int) (k:Int) (w:Int):St:=⟨[(4,cu),(7,cC),(9,(i6 (bj op ws k w)))],[(.var 213 [(LI ws),(LI xs),(i6 k),(i6 w)]),dM,(.var 216 [(aU op),(.fn (.func (dC op)) [] []),(.fn (.func (dD op)) [] [])])]⟩
def sO (op:Int) (ws:List Int) (xs:List Int) (k:Int) (w:Int):St:=⟨[(4,cu),(7,cC),(9,(i6 (bj op ws k w))),(44,(.agg [(aU op),(.fn (.func (dC op)) [] []),(.fn (.func (dD op)) [] [])]))],[(.var 213 [(LI ws),(LI xs),(i6 k),(i6 w)]),dM,(.var 216 [(aU op),(.fn (.func (dC op)) [] []),(.fn (.func (dD op)) [] [])])]⟩
def sP (op:Int) (ws:List Int) (xs:List Int) (k:Int) (w:Int):St:=⟨[(4,cu),(7,cC),(9,(i6 (bj op ws k w))),(45,(i6 (bj op ws k w)))],[(.var 213 [(LI ws),(LI xs),(i6 k),(i6 w)]),dM,(.var 216 [(aU op),(.fn (.func (dC op)) [] []),(.fn (.func (dD op)) [] [])])]⟩
def sQ (op:Int) (ws:List Int) (xs:List Int) (k:Int) (w:Int):St:=⟨[(4,cu),(7,cC),(9,(i6 (bj op ws k w))),(46,(i6 (bj op ws k w)))],[(.var 213 [(LI ws),(LI xs),(i6 k),(i6 w)]),dM,(.var 216 [(aU op),(.fn (.func (dC op)) [] []),(.fn (.func (dD op)) [] [])])]⟩
def mu (op:Int) (ws:List Int) (xs:List Int) (k:Int) (w:Int):St:=⟨[(4,cu),(7,cC),(9,(i6 (bj op ws k w))),(44,(.agg [(aU op),(.fn (.func (dC op)) [] []),(.fn (.func (dD op)) [] [])])),(45,(i6 (bj op ws k w)))],[(.var 213 [(LI ws),(LI xs),(i6 k),(i6 w)]),dM,(.var 216 [(aU op),(.fn (.func (dC op)) [] []),(.fn (.func (dD op)) [] [])])]⟩
def my (op:Int) (ws:List Int) (xs:List Int) (k:Int) (w:Int):St:=⟨[(4,cu),(7,cC),(9,(i6 (bj op ws k w))),(44,(.agg [(aU op),(.fn (.func (dC op)) [] []),(.fn (.func (dD op)) [] [])])),(46,(i6 (bj op ws k w)))],[(.var 213 [(LI ws),(LI xs),(i6 k),(i6 w)]),dM,(.var 216 [(aU op),(.fn (.func (dC op)) [] []),(.fn (.func (dD op)) [] [])])]⟩
def mz (op:Int) (ws:List Int) (xs:List Int) (k:Int) (w:Int):St:=⟨[(4,cu),(7,cC),(9,(i6 (bj op ws k w))),(45,(i6 (bj op ws k w))),(46,(i6 (bj op ws k w)))],[(.var 213 [(LI ws),(LI xs),(i6 k),(i6 w)]),dM,(.var 216 [(aU op),(.fn (.func (dC op)) [] []),(.fn (.func (dD op)) [] [])])]⟩
def sR (op:Int) (ws:List Int) (xs:List Int) (k:Int) (w:Int):St:=⟨[(4,cu),(7,cC),(9,(i6 (bj op ws k w))),(46,(i6 (bj op ws k w))),(47,(dB (ax (bj op ws k w))))],[(.var 213 [(LI ws),(LI xs),(i6 k),(i6 w)]),dM,(.var 216 [(aU op),(.fn (.func (dC op)) [] []),(.fn (.func (dD op)) [] [])])]⟩
def jp (op:Int) (ws:List Int) (xs:List Int) (k:Int) (w:Int):St:=⟨[(4,cu),(7,cC),(9,(i6 (bj op ws k w))),(44,(.agg [(aU op),(.fn (.func (dC op)) [] []),(.fn (.func (dD op)) [] [])])),(45,(i6 (bj op ws k w))),(46,(i6 (bj op ws k w)))],[(.var 213 [(LI ws),(LI xs),(i6 k),(i6 w)]),dM,(.var 216 [(aU op),(.fn (.func (dC op)) [] []),(.fn (.func (dD op)) [] [])])]⟩
def mA (op:Int) (ws:List Int) (xs:List Int) (k:Int) (w:Int):St:=⟨[(4,cu),(7,cC),(9,(i6 (bj op ws k w))),(44,(.agg [(aU op),(.fn (.func (dC op)) [] []),(.fn (.func (dD op)) [] [])])),(46,(i6 (bj op ws k w))),(47,(dB (ax (bj op ws k w))))],[(.var 213 [(LI ws),(LI xs),(i6 k),(i6 w)]),dM,(.var 216 [(aU op),(.fn (.func (dC op)) [] []),(.fn (.func (dD op)) [] [])])]⟩
def kJ (op:Int) (ws:List Int) (xs:List Int) (k:Int) (w:Int):St:=⟨[(4,cu),(7,cC),(9,(i6 (bj op ws k w))),(45,(i6 (bj op ws k w))),(46,(i6 (bj op ws k w))),(47,(dB (ax (bj op ws k w))))],[(.var 213 [(LI ws),(LI xs),(i6 k),(i6 w)]),dM,(.var 216 [(aU op),(.fn (.func (dC op)) [] []),(.fn (.func (dD op)) [] [])])]⟩
def ia (op:Int) (ws:List Int) (xs:List Int) (k:Int) (w:Int):St:=⟨[(4,cu),(7,cC),(9,(i6 (bj op ws k w))),(44,(.agg [(aU op),(.fn (.func (dC op)) [] []),(.fn (.func (dD op)) [] [])])),(45,(i6 (bj op ws k w))),(46,(i6 (bj op ws k w))),(47,(dB (ax (bj op ws k w))))],[(.var 213 [(LI ws),(LI xs),(i6 k),(i6 w)]),dM,(.var 216 [(aU op),(.fn (.func (dC op)) [] []),(.fn (.func (dD op)) [] [])])]⟩
def qH (op:Int) (ws:List Int) (xs:List Int) (k:Int) (w:Int):St:=⟨[(4,cu),(7,cC),(9,(i6 (bj op ws k w))),(44,(.agg [(aU op),(.fn (.func (dC op)) [] []),(.fn (.func (dD op)) [] [])])),(46,(i6 (bj op ws k w))),(47,(dB (ax (bj op ws k w))))],[(.var 213 [(LI ws),(LI xs),(i6 k),(i6 w)]),(.var 216 [(aU op),(.fn (.func (dC op)) [] []),(.fn (.func (dD op)) [] [])]),(.var 216 [(aU op),(.fn (.func (dC op)) [] []),(.fn (.func (dD op)) [] [])])]⟩
def kK (op:Int) (ws:List Int) (xs:List Int) (k:Int) (w:Int):St:=⟨[(4,cu),(7,cC),(9,(i6 (bj op ws k w))),(44,(.agg [(aU op),(.fn (.func (dC op)) [] []),(.fn (.func (dD op)) [] [])])),(45,(i6 (bj op ws k w))),(46,(i6 (bj op ws k w))),(47,(dB (ax (bj op ws k w))))],[(.var 213 [(LI ws),(LI xs),(i6 k),(i6 w)]),(.var 216 [(aU op),(.fn (.func (dC op)) [] []),(.fn (.func (dD op)) [] [])]),(.var 216 [(aU op),(.fn (.func (dC op)) [] []),(.fn (.func (dD op)) [] [])])]⟩
def qI (op:Int) (ws:List Int) (xs:List Int) (k:Int) (w:Int):St:=⟨[(4,cu),(5,(i6 (bj op ws k w))),(7,cC),(9,(i6 (bj op ws k w))),(44,(.agg [(aU op),(.fn (.func (dC op)) [] []),(.fn (.func (dD op)) [] [])])),(45,(i6 (bj op ws k w))),(46,(i6 (bj op ws k w))),(47,(dB (ax (bj op ws k w))))],[(.var 213 [(LI ws),(LI xs),(i6 k),(i6 w)]),(.var 216 [(aU op),(.fn (.func (dC op)) [] []),(.fn (.func (dD op)) [] [])]),(.var 216 [(aU op),(.fn (.func (dC op)) [] []),(.fn (.func (dD op)) [] [])])]⟩
def qJ (op:Int) (ws:List Int) (xs:List Int) (k:Int) (w:Int):St:=⟨[(4,cu),(5,(i6 (bj op ws k w))),(6,(dB (ax (bj op ws k w))))],[(.var 213 [(LI ws),(LI xs),(i6 k),(i6 w)]),(.var 216 [(aU op),(.fn (.func (dC op)) [] []),(.fn (.func (dD op)) [] [])]),(.var 216 [(aU op),(.fn (.func (dC op)) [] []),(.fn (.func (dD op)) [] [])])]⟩
def kL (op:Int) (ws:List Int) (xs:List Int) (k:Int) (w:Int):St:=⟨[(4,cu),(7,cC),(9,(i6 (bj op ws k w)))],[(.var 213 [(LI ws),(LI xs),(i6 k),(i6 w)]),dM,(.var 216 [(aU op),(.fn (.func (dC op)) [] []),(.fn (.func (dD op)) [] [])])]⟩
def qK (op:Int) (ws:List Int) (xs:List Int) (k:Int) (w:Int):St:=⟨[(4,cu),(7,cC),(9,(i6 (bj op ws k w))),(44,(.agg [(aU op),(.fn (.func (dC op)) [] []),(.fn (.func (dD op)) [] [])]))],[(.var 213 [(LI ws),(LI xs),(i6 k),(i6 w)]),dM,(.var 216 [(aU op),(.fn (.func (dC op)) [] []),(.fn (.func (dD op)) [] [])])]⟩
def qL (op:Int) (ws:List Int) (xs:List Int) (k:Int) (w:Int):St:=⟨[(4,cu),(7,cC),(9,(i6 (bj op ws k w))),(45,(i6 (bj op ws k w)))],[(.var 213 [(LI ws),(LI xs),(i6 k),(i6 w)]),dM,(.var 216 [(aU op),(.fn (.func (dC op)) [] []),(.fn (.func (dD op)) [] [])])]⟩
def qM (op:Int) (ws:List Int) (xs:List Int) (k:Int) (w:Int):St:=⟨[(4,cu),(7,cC),(9,(i6 (bj op ws k w))),(46,(i6 (bj op ws k w)))],[(.var 213 [(LI ws),(LI xs),(i6 k),(i6 w)]),dM,(.var 216 [(aU op),(.fn (.func (dC op)) [] []),(.fn (.func (dD op)) [] [])])]⟩
def kM (op:Int) (ws:List Int) (xs:List Int) (k:Int) (w:Int):St:=⟨[(4,cu),(7,cC),(9,(i6 (bj op ws k w))),(44,(.agg [(aU op),(.fn (.func (dC op)) [] []),(.fn (.func (dD op)) [] [])])),(45,(i6 (bj op ws k w)))],[(.var 213 [(LI ws),(LI xs),(i6 k),(i6 w)]),dM,(.var 216 [(aU op),(.fn (.func (dC op)) [] []),(.fn (.func (dD op)) [] [])])]⟩
def kN (op:Int) (ws:List Int) (xs:List Int) (k:Int) (w:Int):St:=⟨[(4,cu),(7,cC),(9,(i6 (bj op ws k w))),(44,(.agg [(aU op),(.fn (.func (dC op)) [] []),(.fn (.func (dD op)) [] [])])),(46,(i6 (bj op ws k w)))],[(.var 213 [(LI ws),(LI xs),(i6 k),(i6 w)]),dM,(.var 216 [(aU op),(.fn (.func (dC op)) [] []),(.fn (.func (dD op)) [] [])])]⟩
def kO (op:Int) (ws:List Int) (xs:List Int) (k:Int) (w:Int):St:=⟨[(4,cu),(7,cC),(9,(i6 (bj op ws k w))),(45,(i6 (bj op ws k w))),(46,(i6 (bj op ws k w)))],[(.var 213 [(LI ws),(LI xs),(i6 k),(i6 w)]),dM,(.var 216 [(aU op),(.fn (.func (dC op)) [] []),(.fn (.func (dD op)) [] [])])]⟩
def qN (op:Int) (ws:List Int) (xs:List Int) (k:Int) (w:Int):St:=⟨[(4,cu),(7,cC),(9,(i6 (bj op ws k w))),(46,(i6 (bj op ws k w))),(47,(dB (ax (bj op ws k w))))],[(.var 213 [(LI ws),(LI xs),(i6 k),(i6 w)]),dM,(.var 216 [(aU op),(.fn (.func (dC op)) [] []),(.fn (.func (dD op)) [] [])])]⟩
def ib (op:Int) (ws:List Int) (xs:List Int) (k:Int) (w:Int):St:=⟨[(4,cu),(7,cC),(9,(i6 (bj op ws k w))),(44,(.agg [(aU op),(.fn (.func (dC op)) [] []),(.fn (.func (dD op)) [] [])])),(45,(i6 (bj op ws k w))),(46,(i6 (bj op ws k w)))],[(.var 213 [(LI ws),(LI xs),(i6 k),(i6 w)]),dM,(.var 216 [(aU op),(.fn (.func (dC op)) [] []),(.fn (.func (dD op)) [] [])])]⟩
def kP (op:Int) (ws:List Int) (xs:List Int) (k:Int) (w:Int):St:=⟨[(4,cu),(7,cC),(9,(i6 (bj op ws k w))),(44,(.agg [(aU op),(.fn (.func (dC op)) [] []),(.fn (.func (dD op)) [] [])])),(46,(i6 (bj op ws k w))),(47,(dB (ax (bj op ws k w))))],[(.var 213 [(LI ws),(LI xs),(i6 k),(i6 w)]),dM,(.var 216 [(aU op),(.fn (.func (dC op)) [] []),(.fn (.func (dD op)) [] [])])]⟩
def jF (op:Int) (ws:List Int) (xs:List Int) (k:Int) (w:Int):St:=⟨[(4,cu),(7,cC),(9,(i6 (bj op ws k w))),(45,(i6 (bj op ws k w))),(46,(i6 (bj op ws k w))),(47,(dB (ax (bj op ws k w))))],[(.var 213 [(LI ws),(LI xs),(i6 k),(i6 w)]),dM,(.var 216 [(aU op),(.fn (.func (dC op)) [] []),(.fn (.func (dD op)) [] [])])]⟩
def gt (op:Int) (ws:List Int) (xs:List Int) (k:Int) (w:Int):St:=⟨[(4,cu),(7,cC),(9,(i6 (bj op ws k w))),(44,(.agg [(aU op),(.fn (.func (dC op)) [] []),(.fn (.func (dD op)) [] [])])),(45,(i6 (bj op ws k w))),(46,(i6 (bj op ws k w))),(47,(dB (ax (bj op ws k w))))],[(.var 213 [(LI ws),(LI xs),(i6 k),(i6 w)]),dM,(.var 216 [(aU op),(.fn (.func (dC op)) [] []),(.fn (.func (dD op)) [] [])])]⟩
def ph (op:Int) (ws:List Int) (xs:List Int) (k:Int) (w:Int):St:=⟨[(4,cu),(7,cC),(9,(i6 (bj op ws k w))),(44,(.agg [(aU op),(.fn (.func (dC op)) [] []),(.fn (.func (dD op)) [] [])])),(46,(i6 (bj op ws k w))),(47,(dB (ax (bj op ws k w))))],[(.var 213 [(LI ws),(LI xs),(i6 k),(i6 w)]),(.var 216 [(aU op),(.fn (.func (dC op)) [] []),(.fn (.func (dD op)) [] [])]),(.var 216 [(aU op),(.fn (.func (dC op)) [] []),(.fn (.func (dD op)) [] [])])]⟩
def jG (op:Int) (ws:List Int) (xs:List Int) (k:Int) (w:Int):St:=⟨[(4,cu),(7,cC),(9,(i6 (bj op ws k w))),(44,(.agg [(aU op),(.fn (.func (dC op)) [] []),(.fn (.func (dD op)) [] [])])),(45,(i6 (bj op ws k w))),(46,(i6 (bj op ws k w))),(47,(dB (ax (bj op ws k w))))],[(.var 213 [(LI ws),(LI xs),(i6 k),(i6 w)]),(.var 216 [(aU op),(.fn (.func (dC op)) [] []),(.fn (.func (dD op)) [] [])]),(.var 216 [(aU op),(.fn (.func (dC op)) [] []),(.fn (.func (dD op)) [] [])])]⟩
def pi (op:Int) (ws:List Int) (xs:List Int) (k:Int) (w:Int):St:=⟨[(4,cu),(5,(i6 (bj op ws k w))),(7,cC),(9,(i6 (bj op ws k w))),(44,(.agg [(aU op),(.fn (.func (dC op)) [] []),(.fn (.func (dD op)) [] [])])),(45,(i6 (bj op ws k w))),(46,(i6 (bj op ws k w))),(47,(dB (ax (bj op ws k w))))],[(.var 213 [(LI ws),(LI xs),(i6 k),(i6 w)]),(.var 216 [(aU op),(.fn (.func (dC op)) [] []),(.fn (.func (dD op)) [] [])]),(.var 216 [(aU op),(.fn (.func (dC op)) [] []),(.fn (.func (dD op)) [] [])])]⟩
def pj (op:Int) (ws:List Int) (xs:List Int) (k:Int) (w:Int):St:=⟨[(4,cu),(5,(i6 (bj op ws k w))),(6,(dB (ax (bj op ws k w))))],[(.var 213 [(LI ws),(LI xs),(i6 k),(i6 w)]),(.var 216 [(aU op),(.fn (.func (dC op)) [] []),(.fn (.func (dD op)) [] [])]),(.var 216 [(aU op),(.fn (.func (dC op)) [] []),(.fn (.func (dD op)) [] [])])]⟩
theorem wE (op:Int) (ws xs:List Int) (k w:Int) (hw:ws.length≤9223372036854775807) (h:zt op ws=true):CC (Eb op ws xs k w):=by
 obtain⟨h1,h2⟩:=xO h
 have hop:=uV h
 refine ai.vc (V:=TT 4 (CS (op=2∨op=3∨op=4∨op=5∨op=6∨op=7∨op=8∨op=9) (CC xR∧TT 1 ((∃(j:Nat) (e:Int×Value),eK[j]?=some e∧op=e.1∧(∀e'∈eK.take j,op≠e'.1)∧ql (D.ofVal e.2) (.agg [(aU op),(.fn (.func (dC op)) [] []),(.fn (.func (dD op)) [] [])]))∧TT 18 ((True∧(!decide ((ws.length:Int)=(bH op)))=false)∧TT 2 (CC (Ig ws)∧TT 1 ((!(ws.all ax))=false∧TT 3 (GC (cW op ws xs k w)∧TT 1 ((mt op ws xs k w)=(mt op ws xs k w)∧(((sE (sO op ws xs k w) (True))∧(sE (sP op ws xs k w) (True))∧(sE (sQ op ws xs k w) (True))∧True)∧((sE (mu op ws xs k w) (True))∧(sE (my op ws xs k w) (True))∧True)∧((sE (mu op ws xs k w) (True))∧(sE (mz op ws xs k w) (True))∧True)∧((sE (my op ws xs k w) (True))∧(sE (mz op ws xs k w) (True))∧(sE (sR op ws xs k w) (CC (gN (bj op ws k w))))∧True)∧((sE (jp op ws xs k w) (True))∧True)∧((sE (jp op ws xs k w) (True))∧(sE (mA op ws xs k w) (CC (gN (bj op ws k w))))∧True)∧((sE (jp op ws xs k w) (True))∧(sE (kJ op ws xs k w) (CC (gN (bj op ws k w))))∧True)∧((sE (mA op ws xs k w) (True))∧(sE (kJ op ws xs k w) (True))∧True)∧((sE (ia op ws xs k w) (CC (gN (bj op ws k w))))∧True)∧((sE (ia op ws xs k w) (True))∧(sE (qH op ws xs k w) (True))∧True)∧((sE (ia op ws xs k w) (True))∧True)∧((sE (kK op ws xs k w) (True))∧True)∧((sE (kK op ws xs k w) (True))∧True)∧((sE (qI op ws xs k w) (True))∧True)∧((sE (qJ op ws xs k w) (True))∧True)∧True∧True)∧TT 3 (((bH op)=(bH op)∧((.fn (.func (dC op)) [] []):D)=(.fn (.func (dC op)) [] [])∧((.fn (.func (dD op)) [] []):D)=(.fn (.func (dD op)) [] [])∧True)∧(bj op ws k w)=(bj op ws k w)∧(ax (bj op ws k w))=(ax (bj op ws k w))∧True)))))))) (CC xR∧TT 1 ((∀e'∈eK,op≠e'.1)∧TT 8 (CC A5∧TT 1 ((∃(j:Nat) (e:Int×Value),fo[j]?=some e∧op=e.1∧(∀e'∈fo.take j,op≠e'.1)∧ql (D.ofVal e.2) (.agg [(aU op),(.fn (.func (dC op)) [] []),(.fn (.func (dD op)) [] [])]))∧TT 15 ((True∧(!decide ((ws.length:Int)=(bH op)))=false)∧TT 2 (CC (Ig ws)∧TT 1 ((!(ws.all ax))=false∧TT 3 (GC (cW op ws xs k w)∧TT 1 ((kL op ws xs k w)=(kL op ws xs k w)∧(((sE (qK op ws xs k w) (True))∧(sE (qL op ws xs k w) (True))∧(sE (qM op ws xs k w) (True))∧True)∧((sE (kM op ws xs k w) (True))∧(sE (kN op ws xs k w) (True))∧True)∧((sE (kM op ws xs k w) (True))∧(sE (kO op ws xs k w) (True))∧True)∧((sE (kN op ws xs k w) (True))∧(sE (kO op ws xs k w) (True))∧(sE (qN op ws xs k w) (CC (gN (bj op ws k w))))∧True)∧((sE (ib op ws xs k w) (True))∧True)∧((sE (ib op ws xs k w) (True))∧(sE (kP op ws xs k w) (CC (gN (bj op ws k w))))∧True)∧((sE (ib op ws xs k w) (True))∧(sE (jF op ws xs k w) (CC (gN (bj op ws k w))))∧True)∧((sE (kP op ws xs k w) (True))∧(sE (jF op ws xs k w) (True))∧True)∧((sE (gt op ws xs k w) (CC (gN (bj op ws k w))))∧True)∧((sE (gt op ws xs k w) (True))∧(sE (ph op ws xs k w) (True))∧True)∧((sE (gt op ws xs k w) (True))∧True)∧((sE (jG op ws xs k w) (True))∧True)∧((sE (jG op ws xs k w) (True))∧True)∧((sE (pi op ws xs k w) (True))∧True)∧((sE (pj op ws xs k w) (True))∧True)∧True∧True)∧TT 3 (((bH op)=(bH op)∧((.fn (.func (dC op)) [] []):D)=(.fn (.func (dC op)) [] [])∧((.fn (.func (dD op)) [] []):D)=(.fn (.func (dD op)) [] [])∧True)∧(bj op ws k w)=(bj op ws k w)∧(ax (bj op ws k w))=(ax (bj op ws k w))∧True)))))))))))) (.s 1 (op=2∨op=3∨op=4∨op=5∨op=6∨op=7∨op=8∨op=9) (.w 1 [(0,xR.O),(2,.ent (.agg [(aU op),(.fn (.func (dC op)) [] []),(.fn (.func (dD op)) [] [])]))]<|.w 4 [(10,.val (dB false)),(13,(Ig ws).O)]<|.u 38 (.w 6 [(3,.callg none false (i6 (bj op ws k w)))]<|.y 7 [(3,(gN (bj op ws k w)).O)] [((bm 7 0),(mt op ws xs k w)),((bm 7 1),(sO op ws xs k w)),((bm 7 2),(sP op ws xs k w)),((bm 7 4),(sQ op ws xs k w)),((bm 7 3),(mu op ws xs k w)),((bm 7 5),(my op ws xs k w)),((bm 7 6),(mz op ws xs k w)),((bm 7 12),(sR op ws xs k w)),((bm 7 7),(jp op ws xs k w)),((bm 7 13),(mA op ws xs k w)),((bm 7 14),(kJ op ws xs k w)),((bm 7 15),(ia op ws xs k w)),((bm 7 29),(qH op ws xs k w)),((bm 7 31),(kK op ws xs k w)),((bm 7 63),(qI op ws xs k w)),((bm 7 127),(qJ op ws xs k w))]<|.e)) (.w 1 [(0,xR.O),(2,.idx none)]<|.w 3 [(0,A5.O),(2,.ent (.agg [(aU op),(.fn (.func (dC op)) [] []),(.fn (.func (dD op)) [] [])]))]<|.w 4 [(10,.val (dB false)),(13,(Ig ws).O)]<|.u 38 (.w 6 [(3,.callg none false (i6 (bj op ws k w)))]<|.y 7 [(3,(gN (bj op ws k w)).O)] [((bm 7 0),(kL op ws xs k w)),((bm 7 1),(qK op ws xs k w)),((bm 7 2),(qL op ws xs k w)),((bm 7 4),(qM op ws xs k w)),((bm 7 3),(kM op ws xs k w)),((bm 7 5),(kN op ws xs k w)),((bm 7 6),(kO op ws xs k w)),((bm 7 12),(qN op ws xs k w)),((bm 7 7),(ib op ws xs k w)),((bm 7 13),(kP op ws xs k w)),((bm 7 14),(jF op ws xs k w)),((bm 7 15),(gt op ws xs k w)),((bm 7 29),(ph op ws xs k w)),((bm 7 31),(jG op ws xs k w)),((bm 7 63),(pi op ws xs k w)),((bm 7 127),(pj op ws xs k w))]<|.e))) Tryz.func117 rfl rfl rfl (by kernel_rfl) ?_
 refine tt ⟨fun hs0=>?_,fun hs0=>?_⟩
 · have hS:=hs0
   exact⟨nC,tt ⟨(uW hS),tt ⟨(nF h1),tt ⟨(jn ws hw),tt ⟨(Lq h2),tt ⟨(Jp op ws xs k w h),tt ⟨rfl,⟨⟨⟨⟨rfl,oK,oK⟩,⟨rfl,oK,oK⟩,⟨rfl,oK,oK⟩,oK⟩,⟨⟨rfl,oK,oK⟩,⟨rfl,oK,oK⟩,oK⟩,⟨⟨rfl,oK,oK⟩,⟨rfl,oK,oK⟩,oK⟩,⟨⟨rfl,oK,oK⟩,⟨rfl,oK,oK⟩,⟨rfl,(dj (bj op ws k w)),oK⟩,oK⟩,⟨⟨rfl,oK,oK⟩,oK⟩,⟨⟨rfl,oK,oK⟩,⟨rfl,(dj (bj op ws k w)),oK⟩,oK⟩,⟨⟨rfl,oK,oK⟩,⟨rfl,(dj (bj op ws k w)),oK⟩,oK⟩,⟨⟨rfl,oK,oK⟩,⟨rfl,oK,oK⟩,oK⟩,⟨⟨rfl,(dj (bj op ws k w)),oK⟩,oK⟩,⟨⟨rfl,oK,oK⟩,⟨rfl,oK,oK⟩,oK⟩,⟨⟨rfl,oK,oK⟩,oK⟩,⟨⟨rfl,oK,oK⟩,oK⟩,⟨⟨rfl,oK,oK⟩,oK⟩,⟨⟨rfl,oK,oK⟩,oK⟩,⟨⟨rfl,oK,oK⟩,oK⟩,oK,oK⟩,tt ⟨⟨rfl,rfl,rfl,oK⟩,rfl,rfl,oK⟩⟩⟩⟩⟩⟩⟩⟩⟩
 · have hS:=hs0
   exact⟨nC,tt ⟨(uX hS),tt ⟨sa,tt ⟨(uY (by omega)),tt ⟨(nF h1),tt ⟨(jn ws hw),tt ⟨(Lq h2),tt ⟨(Jp op ws xs k w h),tt ⟨rfl,⟨⟨⟨⟨rfl,oK,oK⟩,⟨rfl,oK,oK⟩,⟨rfl,oK,oK⟩,oK⟩,⟨⟨rfl,oK,oK⟩,⟨rfl,oK,oK⟩,oK⟩,⟨⟨rfl,oK,oK⟩,⟨rfl,oK,oK⟩,oK⟩,⟨⟨rfl,oK,oK⟩,⟨rfl,oK,oK⟩,⟨rfl,(dj (bj op ws k w)),oK⟩,oK⟩,⟨⟨rfl,oK,oK⟩,oK⟩,⟨⟨rfl,oK,oK⟩,⟨rfl,(dj (bj op ws k w)),oK⟩,oK⟩,⟨⟨rfl,oK,oK⟩,⟨rfl,(dj (bj op ws k w)),oK⟩,oK⟩,⟨⟨rfl,oK,oK⟩,⟨rfl,oK,oK⟩,oK⟩,⟨⟨rfl,(dj (bj op ws k w)),oK⟩,oK⟩,⟨⟨rfl,oK,oK⟩,⟨rfl,oK,oK⟩,oK⟩,⟨⟨rfl,oK,oK⟩,oK⟩,⟨⟨rfl,oK,oK⟩,oK⟩,⟨⟨rfl,oK,oK⟩,oK⟩,⟨⟨rfl,oK,oK⟩,oK⟩,⟨⟨rfl,oK,oK⟩,oK⟩,oK,oK⟩,tt ⟨⟨rfl,rfl,rfl,oK⟩,rfl,rfl,oK⟩⟩⟩⟩⟩⟩⟩⟩⟩⟩⟩
abbrev Ec (op:Int) (ws xs:List Int) (k w:Int):Ct:=⟨117,[(i6 op),(.agg [(LI ws),(LI xs),(i6 k),(i6 w)])],true,(.tup [(.agg [(i6 0),(.v .nilf),(.v .nilf)]),(i6 0),(dB false)])⟩
theorem wF (op:Int) (ws xs:List Int) (k w:Int) (hw:ws.length≤9223372036854775807) (h:zt op ws=false):CC (Ec op ws xs k w):=by
 refine ai.vc (V:=TT 4 (CS (op=2∨op=3∨op=4∨op=5∨op=6∨op=7∨op=8∨op=9) (CC xR∧TT 1 ((∃(j:Nat) (e:Int×Value),eK[j]?=some e∧op=e.1∧(∀e'∈eK.take j,op≠e'.1)∧ql (D.ofVal e.2) (.agg [(aU op),(.fn (.func (dC op)) [] []),(.fn (.func (dD op)) [] [])]))∧TT 8 (CS ((ws.length:Int)=(bH op)) (TT 10 ((True∧(!decide ((ws.length:Int)=(bH op)))=false)∧TT 2 (CC (Ig ws)∧TT 1 ((!(ws.all ax))=true∧TT 7 (((0:Int)=0∧True∧True∧True)∧(0:Int)=0∧false=false∧True))))) (TT 10 ((True∧(!decide ((ws.length:Int)=(bH op)))=true)∧TT 11 (((0:Int)=0∧True∧True∧True)∧(0:Int)=0∧false=false∧True)))))) (CC xR∧TT 1 ((∀e'∈eK,op≠e'.1)∧TT 8 (CS (op=1∨op=10∨op=11∨op=12∨op=13) (CC A5∧TT 1 ((∃(j:Nat) (e:Int×Value),fo[j]?=some e∧op=e.1∧(∀e'∈fo.take j,op≠e'.1)∧ql (D.ofVal e.2) (.agg [(aU op),(.fn (.func (dC op)) [] []),(.fn (.func (dD op)) [] [])]))∧TT 5 (CS ((ws.length:Int)=(bH op)) (TT 10 ((True∧(!decide ((ws.length:Int)=(bH op)))=false)∧TT 2 (CC (Ig ws)∧TT 1 ((!(ws.all ax))=true∧TT 7 (((0:Int)=0∧True∧True∧True)∧(0:Int)=0∧false=false∧True))))) (TT 10 ((True∧(!decide ((ws.length:Int)=(bH op)))=true)∧TT 11 (((0:Int)=0∧True∧True∧True)∧(0:Int)=0∧false=false∧True)))))) (CC A5∧TT 1 ((∀e'∈fo,op≠e'.1)∧TT 27 (((0:Int)=0∧True∧True∧True)∧(0:Int)=0∧false=false∧True)))))))) (.s 1 (op=2∨op=3∨op=4∨op=5∨op=6∨op=7∨op=8∨op=9) (.w 1 [(0,xR.O),(2,.ent (.agg [(aU op),(.fn (.func (dC op)) [] []),(.fn (.func (dD op)) [] [])]))]<|.s 4 ((ws.length:Int)=(bH op)) (.w 4 [(10,.val (dB false)),(13,(Ig ws).O)]<|.t 38 (.e)) (.w 4 [(10,.val (dB true))]<|.e)) (.w 1 [(0,xR.O),(2,.idx none)]<|.s 3 (op=1∨op=10∨op=11∨op=12∨op=13) (.w 3 [(0,A5.O),(2,.ent (.agg [(aU op),(.fn (.func (dC op)) [] []),(.fn (.func (dD op)) [] [])]))]<|.s 4 ((ws.length:Int)=(bH op)) (.w 4 [(10,.val (dB false)),(13,(Ig ws).O)]<|.t 38 (.e)) (.w 4 [(10,.val (dB true))]<|.e)) (.w 3 [(0,A5.O),(2,.idx none)]<|.e))) Tryz.func117 rfl rfl rfl (by kernel_rfl) ?_
 refine tt ⟨fun hs0=>?_,fun hs0=>?_⟩
 · have hS:=hs0
   refine⟨nC,tt ⟨(uW hS),tt ⟨fun hs1=>?_,fun hs1=>?_⟩⟩⟩
   · exact tt ⟨(nF hs1),tt ⟨(jn ws hw),tt ⟨(Ng (by rcases FM h with h5 | ⟨_,h5⟩;exact absurd (by assumption) h5;rw[h5];simp)),tt ⟨⟨rfl,oK,oK,oK⟩,rfl,rfl,oK⟩⟩⟩⟩
   · exact tt ⟨(nT hs1),tt ⟨⟨rfl,oK,oK,oK⟩,rfl,rfl,oK⟩⟩
 · have hS:=hs0
   refine⟨nC,tt ⟨(uX hS),tt ⟨fun hs2=>?_,fun hs2=>?_⟩⟩⟩
   · have hO:=hs2
     refine⟨sa,tt ⟨(uY hO),tt ⟨fun hs3=>?_,fun hs3=>?_⟩⟩⟩
     · exact tt ⟨(nF hs3),tt ⟨(jn ws hw),tt ⟨(Ng (by rcases FM h with h5 | ⟨_,h5⟩;exact absurd (by assumption) h5;rw[h5];simp)),tt ⟨⟨rfl,oK,oK,oK⟩,rfl,rfl,oK⟩⟩⟩⟩
     · exact tt ⟨(nT hs3),tt ⟨⟨rfl,oK,oK,oK⟩,rfl,rfl,oK⟩⟩
   · have hO:=hs2
     exact⟨sa,tt ⟨(A6 hO),tt ⟨⟨rfl,oK,oK,oK⟩,rfl,rfl,oK⟩⟩⟩
theorem pS {op:Int} {ws:List Int} {k w:Int} (h:zt op ws=true) (h2:ax (bj op ws k w)=true):oP op ws k w=true:=by rw[A3,h,h2];rfl
theorem co {op:Int} {ws:List Int} {k w:Int} (h:¬zt op ws=true):oP op ws k w=false:=by rw[A3,Bool.eq_false_iff.2 h];rfl
theorem cr {op:Int} {ws:List Int} {k w:Int} (h2:¬ax (bj op ws k w)=true):oP op ws k w=false:=by rw[A3,Bool.eq_false_iff.2 h2,Bool.and_false]
theorem lG {op:Int} {ws:List Int} {k w:Int} (h:oP op ws k w=false):0=ge op ws k w∧1=ms op ws k w:=by unfold ge ms;rw[h];exact⟨rfl,rfl⟩
theorem sd {op:Int} {ws:List Int} {k w:Int} (h:oP op ws k w=true):bj op ws k w=ge op ws k w∧0=ms op ws k w:=by unfold ge ms;rw[h];exact⟨rfl,rfl⟩
abbrev Km (op:Int) (ws:List Int) (k w:Int):Ct:=⟨105,[(i6 op),(LI ws),(.agg [(i6 k),(i6 w)])],false,(.tup [(i6 (ge op ws k w)),(i6 (ms op ws k w))])⟩
theorem FV (op:Int) (ws:List Int) (k w:Int) (hw:ws.length≤9223372036854775807):CC (Km op ws k w):=by
 refine ai.vc (V:=TT 3 (CS (zt op ws=true) (TT 2 (((0≤(0:Int)∧0<(2:Int))∧True)∧TT 1 (((0≤(1:Int)∧1<(2:Int))∧True)∧TT 2 ((vA [] [(i6 op),(.agg [(LI ws),.nils,(i6 k),(i6 w)])] (Eb op ws [] k w).as∧CC (Eb op ws [] k w))∧TT 10 (CB (!(ax (bj op ws k w))) (TT 4 (((0:Int)=(ge op ws k w)∧(1:Int)=(ms op ws k w)∧True)∧(True∧True∧True))) (TT 5 (((bj op ws k w)=(ge op ws k w)∧(0:Int)=(ms op ws k w)∧True)∧(True∧True∧True)))))))) (TT 2 (((0≤(0:Int)∧0<(2:Int))∧True)∧TT 1 (((0≤(1:Int)∧1<(2:Int))∧True)∧TT 2 ((vA [] [(i6 op),(.agg [(LI ws),.nils,(i6 k),(i6 w)])] (Ec op ws [] k w).as∧CC (Ec op ws [] k w))∧TT 14 (((0:Int)=(ge op ws k w)∧(1:Int)=(ms op ws k w)∧True)∧(True∧True∧True)))))))) (.s 1 (zt op ws=true) (.w 1 [(7,(Eb op ws [] k w).O')]<|.b 24 (.e) (.e)) (.w 1 [(7,(Ec op ws [] k w).O')]<|.e)) Tryz.func105 rfl rfl rfl (by kernel_rfl) ?_
 refine tt ⟨fun hs0=>?_,fun hs0=>?_⟩
 · have hb:=hs0
   refine tt ⟨⟨by omega,oK⟩,tt ⟨⟨by omega,oK⟩,tt ⟨⟨⟨rfl,⟨rfl,rfl,rfl,rfl,oK⟩,oK⟩,(wE op ws [] k w hw hb)⟩,tt ⟨fun hc24=>?_,fun hc24=>?_⟩⟩⟩⟩
   · refine tt ⟨⟨?_,?_,oK⟩,⟨oK,oK,oK⟩⟩
     all_goals (first | exact(lG (co hb)).1 | exact(lG (co hb)).2 | exact(lG (cr (by simpa using hc24))).1 | exact(lG (cr (by simpa using hc24))).2 | exact(sd (pS hb (by simpa using hc24))).1 | exact(sd (pS hb (by simpa using hc24))).2)
   · refine tt ⟨⟨?_,?_,oK⟩,⟨oK,oK,oK⟩⟩
     all_goals (first | exact(lG (co hb)).1 | exact(lG (co hb)).2 | exact(lG (cr (by simpa using hc24))).1 | exact(lG (cr (by simpa using hc24))).2 | exact(sd (pS hb (by simpa using hc24))).1 | exact(sd (pS hb (by simpa using hc24))).2)
 · have hb:=hs0
   refine tt ⟨⟨by omega,oK⟩,tt ⟨⟨by omega,oK⟩,tt ⟨⟨⟨rfl,⟨rfl,rfl,rfl,rfl,oK⟩,oK⟩,(wF op ws [] k w hw (Bool.eq_false_iff.2 hb))⟩,tt ⟨⟨?_,?_,oK⟩,⟨oK,oK,oK⟩⟩⟩⟩⟩
   all_goals (first | exact(lG (co hb)).1 | exact(lG (co hb)).2 | exact(lG (cr (by simpa using hc24))).1 | exact(lG (cr (by simpa using hc24))).2 | exact(sd (pS hb (by simpa using hc24))).1 | exact(sd (pS hb (by simpa using hc24))).2)
abbrev Kn (op:Int) (ws xs nums:List Int):Ct:=⟨104,[(i6 op),(LI ws),(LI xs),(LI nums)],false,(.tup [(i6 (dA op ws xs nums)),(i6 (gM op ws xs nums))])⟩
abbrev qO (op:Int) (ws:List Int) (xs:List Int) (nums:List Int):Lp (Nat):=lS [1,10,11,44,45,46] 11 (fun (i:Nat)=>⟨[(1,(LI ws)),(10,(.ptr 9 0 0 0)),(11,(.ptr 10 0 0 0)),(44,(LI xs)),(45,(i6 (xs.length:Int))),(46,(i6 (i:Int)))],[.dead,.dead,.dead,.dead,.dead,.dead,.dead,.dead,.dead,(.var 213 [(LI ws),(LI xs),(i6 (nums.getD 0 0)),(i6 (nums.getD 1 0))]),(.var 216 [(aU op),(.fn (.func (dC op)) [] []),(.fn (.func (dD op)) [] [])])]⟩) (fun (i:Nat)=>i≤xs.length∧∀j,j<i→0≤xs.getD j 0∧xs.getD j 0≤ap (ws.getD j 0)) (fun (i:Nat)=>xs.length-i)
theorem FW (op:Int) (ws xs nums:List Int) (hwl:ws.length≤9223372036854775807) (hxl0:xs.length≤9223372036854775807):CC (Kn op ws xs nums):=by
 refine ai.vc (V:=TT 2 (CS ((nums.length:Int)=2) (TT 3 ((True∧(!decide ((nums.length:Int)=2))=false)∧TT 6 (CN ((xs.length:Int)=(ws.length:Int)) (TT 4 (((0:Int)=(dA op ws xs nums)∧(1:Int)=(gM op ws xs nums)∧True)∧(True∧True∧True))) (TT 3 (IX 0 nums.length∧TT 2 (IX 1 nums.length∧TT 4 (CS (zt op ws=true) (TT 2 (CC (Eb op ws xs (nums.getD 0 0) (nums.getD 1 0))∧TT 10 (CB (!(ax (bj op ws (nums.getD 0 0) (nums.getD 1 0)))) (TT 4 (((0:Int)=(dA op ws xs nums)∧(1:Int)=(gM op ws xs nums)∧True)∧(True∧True∧True))) (TT 3 (GO (qO op ws xs nums) 0 (∀i,(qO op ws xs nums).inv i→TT 1 (CD ((i:Int)<(xs.length:Int)) (TT 1 (IX (i:Int) xs.length∧TT 3 (CS ((xs.getD i 0)<0) (TT 2 ((True∧(decide ((xs.getD i 0)<0))=true)∧TT 12 (((0:Int)=(dA op ws xs nums)∧(1:Int)=(gM op ws xs nums)∧True)∧(True∧True∧True)))) (TT 2 ((True∧(decide ((xs.getD i 0)<0))=false)∧TT 3 (IX (i:Int) ws.length∧TT 1 (CC (xP (ws.getD i 0))∧TT 2 (CD ((xs.getD i 0)>(ap (ws.getD i 0))) (TT 4 (((0:Int)=(dA op ws xs nums)∧(1:Int)=(gM op ws xs nums)∧True)∧(True∧True∧True))) (W6 ((i+1:Nat):Int)∧TT 1 (AG (qO op ws xs nums) i (i+1))))))))))) (TT 3 (GC (cV op ws xs (nums.getD 0 0) (nums.getD 1 0))∧TT 4 (((oQ op ws xs (nums.getD 0 0) (nums.getD 1 0))=(dA op ws xs nums)∧(0:Int)=(gM op ws xs nums)∧True)∧(True∧True∧True))))))))))) (TT 2 (CC (Ec op ws xs (nums.getD 0 0) (nums.getD 1 0))∧TT 14 (((0:Int)=(dA op ws xs nums)∧(1:Int)=(gM op ws xs nums)∧True)∧(True∧True∧True))))))))))) (TT 3 ((True∧(!decide ((nums.length:Int)=2))=true)∧TT 10 (((0:Int)=(dA op ws xs nums)∧(1:Int)=(gM op ws xs nums)∧True)∧(True∧True∧True)))))) (.s 1 ((nums.length:Int)=2) (.w 1 [(3,.val (dB false))]<|.b 25 (.e) (.s 4 (zt op ws=true) (.w 4 [(2,(Eb op ws xs (nums.getD 0 0) (nums.getD 1 0)).O)]<|.b 43 (.e) (.l (qO op ws xs nums) 0 (fun i=>.b 47 (.s 10 ((xs.getD i 0)<0) (.w 10 [(2,.val (dB true))]<|.e) (.w 10 [(2,.val (dB false)),(8,(xP (ws.getD i 0)).O)]<|.b 61 (.e) (.w 12 [(0,.val (i6 ((i+1:Nat):Int)))]<|.e))) (.w 13 [(3,.callg none false (i6 (oQ op ws xs (nums.getD 0 0) (nums.getD 1 0))))]<|.e)))) (.w 4 [(2,(Ec op ws xs (nums.getD 0 0) (nums.getD 1 0)).O)]<|.e))) (.w 1 [(3,.val (dB true))]<|.e)) Tryz.func104 rfl rfl rfl (by kernel_rfl) ?_
 refine tt ⟨fun hs0=>?_,fun hs0=>?_⟩
 · refine tt ⟨(nF hs0),tt (cn (fun hc25=>?_) (fun hc25=>?_))⟩
   · refine tt ⟨⟨?_,?_,oK⟩,⟨oK,oK,oK⟩⟩
     all_goals (first | exact(aR (qE (by omega))).1.symm | exact(aR (qE (by omega))).2.symm | exact(aR (qF (by omega))).1.symm | exact(aR (qF (by omega))).2.symm | exact(aR (bW (co hb))).1.symm | exact(aR (bW (co hb))).2.symm | exact(aR (bW (cr (by simpa using hc43)))).1.symm | exact(aR (bW (cr (by simpa using hc43)))).2.symm | exact(aR (jm (i:=i) (by omega) (by omega))).1.symm | exact(aR (jm (i:=i) (by omega) (by omega))).2.symm | exact(eN hl2 hxl hok hin).1.symm | exact(eN hl2 hxl hok hin).2.symm)
   · refine tt ⟨ix,tt ⟨ix,tt ⟨fun hs1=>?_,fun hs1=>?_⟩⟩⟩
     · have hb:=hs1
       refine tt ⟨(wE op ws xs (nums.getD 0 0) (nums.getD 1 0) hwl hb),tt ⟨fun hc43=>?_,fun hc43=>?_⟩⟩
       · refine tt ⟨⟨?_,?_,oK⟩,⟨oK,oK,oK⟩⟩
         all_goals (first | exact(aR (qE (by omega))).1.symm | exact(aR (qE (by omega))).2.symm | exact(aR (qF (by omega))).1.symm | exact(aR (qF (by omega))).2.symm | exact(aR (bW (co hb))).1.symm | exact(aR (bW (co hb))).2.symm | exact(aR (bW (cr (by simpa using hc43)))).1.symm | exact(aR (bW (cr (by simpa using hc43)))).2.symm | exact(aR (jm (i:=i) (by omega) (by omega))).1.symm | exact(aR (jm (i:=i) (by omega) (by omega))).2.symm | exact(eN hl2 hxl hok hin).1.symm | exact(eN hl2 hxl hok hin).2.symm)
       · refine tt ?_
         have hok:=pS hb (by simpa using hc43)
         have hl2:nums.length=2:=by omega
         have hxl:xs.length=ws.length:=by omega
         refine⟨rfl,⟨by omega,fun j hj=>by omega⟩,?_⟩
         intro i hinv
         obtain⟨hi,hall⟩:=hinv
         refine tt (cd (fun hc47=>?_) (fun hc47=>?_))
         · refine tt ⟨ix,tt ⟨fun hs2=>?_,fun hs2=>?_⟩⟩
           · refine tt ⟨(vT hs2),tt ⟨⟨?_,?_,oK⟩,⟨oK,oK,oK⟩⟩⟩
             all_goals (first | exact(aR (qE (by omega))).1.symm | exact(aR (qE (by omega))).2.symm | exact(aR (qF (by omega))).1.symm | exact(aR (qF (by omega))).2.symm | exact(aR (bW (co hb))).1.symm | exact(aR (bW (co hb))).2.symm | exact(aR (bW (cr (by simpa using hc43)))).1.symm | exact(aR (bW (cr (by simpa using hc43)))).2.symm | exact(aR (jm (i:=i) (by omega) (by omega))).1.symm | exact(aR (jm (i:=i) (by omega) (by omega))).2.symm | exact(eN hl2 hxl hok hin).1.symm | exact(eN hl2 hxl hok hin).2.symm)
           · refine tt ⟨(vF hs2),tt ⟨ix,tt ⟨(tH (ws.getD i 0)),tt (cd (fun hc61=>?_) (fun hc61=>?_))⟩⟩⟩
             · refine tt ⟨⟨?_,?_,oK⟩,⟨oK,oK,oK⟩⟩
               all_goals (first | exact(aR (qE (by omega))).1.symm | exact(aR (qE (by omega))).2.symm | exact(aR (qF (by omega))).1.symm | exact(aR (qF (by omega))).2.symm | exact(aR (bW (co hb))).1.symm | exact(aR (bW (co hb))).2.symm | exact(aR (bW (cr (by simpa using hc43)))).1.symm | exact(aR (bW (cr (by simpa using hc43)))).2.symm | exact(aR (jm (i:=i) (by omega) (by omega))).1.symm | exact(aR (jm (i:=i) (by omega) (by omega))).2.symm | exact(eN hl2 hxl hok hin).1.symm | exact(eN hl2 hxl hok hin).2.symm)
             · refine⟨w6,tt ⟨(i+1),rfl,?_,(?_:xs.length-(i+1)<xs.length-i)⟩⟩
               · exact⟨by omega,cX hall ⟨by omega,by omega⟩⟩
               · omega
         · have hin:D6 ws xs=true:=FL (fun j hj=>hall j (by omega))
           refine tt ⟨(Ma op ws xs _ _ hok hxl hin),tt ⟨⟨?_,?_,oK⟩,⟨oK,oK,oK⟩⟩⟩
           all_goals (first | exact(aR (qE (by omega))).1.symm | exact(aR (qE (by omega))).2.symm | exact(aR (qF (by omega))).1.symm | exact(aR (qF (by omega))).2.symm | exact(aR (bW (co hb))).1.symm | exact(aR (bW (co hb))).2.symm | exact(aR (bW (cr (by simpa using hc43)))).1.symm | exact(aR (bW (cr (by simpa using hc43)))).2.symm | exact(aR (jm (i:=i) (by omega) (by omega))).1.symm | exact(aR (jm (i:=i) (by omega) (by omega))).2.symm | exact(eN hl2 hxl hok hin).1.symm | exact(eN hl2 hxl hok hin).2.symm)
     · have hb:=hs1
       refine tt ⟨(wF op ws xs (nums.getD 0 0) (nums.getD 1 0) hwl (Bool.eq_false_iff.2 hb)),tt ⟨⟨?_,?_,oK⟩,⟨oK,oK,oK⟩⟩⟩
       all_goals (first | exact(aR (qE (by omega))).1.symm | exact(aR (qE (by omega))).2.symm | exact(aR (qF (by omega))).1.symm | exact(aR (qF (by omega))).2.symm | exact(aR (bW (co hb))).1.symm | exact(aR (bW (co hb))).2.symm | exact(aR (bW (cr (by simpa using hc43)))).1.symm | exact(aR (bW (cr (by simpa using hc43)))).2.symm | exact(aR (jm (i:=i) (by omega) (by omega))).1.symm | exact(aR (jm (i:=i) (by omega) (by omega))).2.symm | exact(eN hl2 hxl hok hin).1.symm | exact(eN hl2 hxl hok hin).2.symm)
 · refine tt ⟨(nT hs0),tt ⟨⟨?_,?_,oK⟩,⟨oK,oK,oK⟩⟩⟩
   all_goals (first | exact(aR (qE (by omega))).1.symm | exact(aR (qE (by omega))).2.symm | exact(aR (qF (by omega))).1.symm | exact(aR (qF (by omega))).2.symm | exact(aR (bW (co hb))).1.symm | exact(aR (bW (co hb))).2.symm | exact(aR (bW (cr (by simpa using hc43)))).1.symm | exact(aR (bW (cr (by simpa using hc43)))).2.symm | exact(aR (jm (i:=i) (by omega) (by omega))).1.symm | exact(aR (jm (i:=i) (by omega) (by omega))).2.symm | exact(eN hl2 hxl hok hin).1.symm | exact(eN hl2 hxl hok hin).2.symm)
end Go.Proofs.YtckgpflobhpnpaaGreat
