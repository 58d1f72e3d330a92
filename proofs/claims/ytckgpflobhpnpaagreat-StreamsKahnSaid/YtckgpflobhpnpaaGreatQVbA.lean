/-
  Package bits: widths and values of operations.
-/
import Derived.Test.YtckgpflobhpnpaaGreatQBitP
namespace Go.Proofs.YtckgpflobhpnpaaGreat
open Go.RowKit
set_option linter.unusedVariables false
set_option linter.unusedSimpArgs false
set_option maxRecDepth 100000
abbrev gN (n:Int):Ct:=⟨126,[(i6 n)],false,(dB (ax n))⟩
theorem dj (n:Int):CC (gN n):=by
 refine ai.vc (V:=TT 1 (CS (n≥1) (TT 2 ((True∧(decide (n≥1))=true)∧TT 5 ((decide (n≤8))=(ax n)∧True))) (TT 2 ((True∧(decide (n≥1))=false)∧TT 5 (false=(ax n)∧True))))) (.s 1 (n≥1) (.w 1 [(2,.val (dB true))]<|.e) (.w 1 [(2,.val (dB false))]<|.e)) Tryz.func126 rfl rfl rfl (by kernel_rfl) ?_
 refine tt ⟨fun hs0=>?_,fun hs0=>?_⟩
 · refine tt ⟨(vT hs0),tt ⟨?_,oK⟩⟩
   unfold ax;simp;omega
 · refine tt ⟨(vF hs0),tt ⟨?_,oK⟩⟩
   unfold ax;simp;omega
abbrev xP (w:Int):Ct:=⟨118,[(i6 w)],false,(i6 (ap w))⟩
theorem tH (w:Int):CC (xP w):=by
 refine ai.vc (V:=TT 1 (CS (w<0) (TT 2 ((True∧(decide (w<0))=true)∧TT 5 ((0:Int)=(ap w)∧True))) (TT 2 ((True∧(decide (w<0))=false)∧TT 3 (CD (w>62) (TT 2 ((0:Int)=(ap w)∧True)) (TT 1 (SH w∧W6 ((2^w.toNat)-1)∧TT 2 (((2^w.toNat)-1)=(ap w)∧True)))))))) (.s 1 (w<0) (.w 1 [(2,.val (dB true))]<|.e) (.w 1 [(2,.val (dB false))]<|.b 8 (.e) (.w 3 [(1,.val (i6 (2^w.toNat))),(2,.val (i6 ((2^w.toNat)-1)))]<|.e))) Tryz.func118 rfl rfl rfl (by kernel_rfl) ?_
 refine tt ⟨fun hs0=>?_,fun hs0=>?_⟩
 · refine tt ⟨(vT hs0),tt ⟨?_,oK⟩⟩
   unfold ap;first | exact(if_pos (by omega)).symm | exact(if_neg (by omega)).symm
 · refine tt ⟨(vF hs0),tt (cd (fun hc8=>?_) (fun hc8=>?_))⟩
   · refine tt ⟨?_,oK⟩
     unfold ap;first | exact(if_pos (by omega)).symm | exact(if_neg (by omega)).symm
   · refine tt ⟨sh,⟨(w6 (by have:=mr (n:=w.toNat) (by omega);omega) (by have:=mr (n:=w.toNat) (by omega);omega)),tt ⟨?_,oK⟩⟩⟩
     unfold ap;first | exact(if_pos (by omega)).symm | exact(if_neg (by omega)).symm
abbrev FN (b:Bool):Ct:=⟨138,[(dB b)],false,(i6 (if b=true then 1 else 0))⟩
theorem FO (b:Bool):CC (FN b):=by
 refine ai.vc (V:=TT 2 (CB (b) (TT 2 ((1:Int)=(if b=true then 1 else 0)∧True)) (TT 2 ((0:Int)=(if b=true then 1 else 0)∧True)))) (.b 3 (.e) (.e)) Tryz.func138 rfl rfl rfl (by kernel_rfl) ?_
 refine tt ⟨fun hc3=>?_,fun hc3=>?_⟩
 · refine tt ⟨?_,oK⟩
   first | exact(if_pos hc3).symm | exact(if_neg (by rw[hc3];simp)).symm
 · refine tt ⟨?_,oK⟩
   first | exact(if_pos hc3).symm | exact(if_neg (by rw[hc3];simp)).symm
abbrev Kb (n:Int):Ct:=⟨125,[(i6 n)],false,(dB (!(ax n)))⟩
theorem FP (n:Int):CC (Kb n):=by
 refine ai.vc (V:=TT 2 (CC (gN n)∧TT 3 ((!(ax n))=(!(ax n))∧True))) (.w 1 [(1,(gN n).O)]<|.e) Tryz.func125 rfl rfl rfl (by kernel_rfl) ?_
 exact tt ⟨(dj n),tt ⟨rfl,oK⟩⟩
abbrev Kc (ws:List Int):Ct:=⟨106,[(LI ws),(.fn (.func 125) [] [])],false,(i6 (r8 0 ws))⟩
abbrev qG (ws:List Int):Lp (Nat):=lS [0,1,7,8] 0 (fun (k:Nat)=>⟨[(0,(LI ws)),(1,(.fn (.func 125) [] [])),(7,(i6 (ws.length:Int))),(8,(i6 (k:Int)))],[]⟩) (fun (k:Nat)=>k≤ws.length∧r8 k (ws.drop k)=r8 0 ws) (fun (k:Nat)=>ws.length-k)
theorem FQ (ws:List Int) (hl:ws.length≤9223372036854775807):CC (Kc ws):=by
 refine ai.vc (V:=TT 4 (GO (qG ws) 0 (∀k,(qG ws).inv k→TT 1 (CD ((k:Int)<(ws.length:Int)) (TT 5 (IX (k:Int) ws.length∧TT 1 (CC (Kb (ws.getD k 0))∧CB (!(ax (ws.getD k 0))) (TT 3 ((k:Int)=(r8 0 ws)∧True)) (W6 ((k+1:Nat):Int)∧TT 1 (AG (qG ws) k (k+1)))))) (TT 2 ((-1)=(r8 0 ws)∧True)))))) (.l (qG ws) 0 (fun k=>.b 9 (.w 4 [(5,(Kb (ws.getD k 0)).O)]<|.b 16 (.e) (.w 6 [(0,.val (i6 ((k+1:Nat):Int)))]<|.e)) (.e))) Tryz.func106 rfl rfl rfl (by kernel_rfl) ?_
 refine tt ⟨rfl,⟨by omega,by rw[List.drop_zero]⟩,?_⟩
 intro k hinv
 obtain⟨hk,hx⟩:=hinv
 refine tt (cd (fun hc9=>?_) (fun hc9=>?_))
 · refine tt ⟨ix,tt ⟨(FP (ws.getD k 0)),⟨fun hc16=>?_,fun hc16=>?_⟩⟩⟩
   · refine tt ⟨?_,oK⟩
     rw[← hx,wB (show k<ws.length by omega),if_neg (by simpa using hc16)]
   · refine⟨w6,tt ⟨(k+1),rfl,?_,(?_:ws.length-(k+1)<ws.length-k)⟩⟩
     · refine⟨by omega,?_⟩
       rw[← hx,wB (show k<ws.length by omega),if_pos (by simpa using hc16)]
     · omega
 · refine tt ⟨?_,oK⟩
   rw[← hx,List.drop_of_length_le (by omega)];rfl
abbrev Ig (ws:List Int):Ct:=⟨82,[(LI ws),(.fn (.func 125) [] [])],false,(dB (!(ws.all ax)))⟩
theorem jn (ws:List Int) (hl:ws.length≤9223372036854775807):CC (Ig ws):=by
 refine ai.vc (V:=TT 3 (CC (Kc ws)∧TT 3 ((decide ((r8 0 ws)≥0))=(!(ws.all ax))∧True))) (.w 1 [(2,(Kc ws).O)]<|.e) Tryz.func82 rfl rfl rfl (by kernel_rfl) ?_
 refine tt ⟨(FQ ws om),tt ⟨?_,oK⟩⟩
 rw[← wA ws 0]
abbrev Nh (ws xs:List Int) (k w:Int):Ct:=⟨127,[(.agg [(LI ws),(LI xs),(i6 k),(i6 w)])],false,(i6 (ws.getD 0 0))⟩
theorem FR (ws xs:List Int) (k w:Int) (hl:ws.length=1) (hf:ws.all ax=true):CC (Nh ws xs k w):=by
 have f0:0<ws.length→1≤ws.getD 0 0∧ws.getD 0 0≤8:=fun h=>aB hf h
 have f1:1<ws.length→1≤ws.getD 1 0∧ws.getD 1 0≤8:=fun h=>aB hf h
 have f2:2<ws.length→1≤ws.getD 2 0∧ws.getD 2 0≤8:=fun h=>aB hf h
 refine ai.vc (V:=TT 4 (IX 0 ws.length∧TT 3 ((ws.getD 0 0)=(ws.getD 0 0)∧True))) (.e) Tryz.func127 rfl rfl rfl (by kernel_rfl) ?_
 exact tt ⟨ix,tt ⟨rfl,oK⟩⟩
abbrev Kd (ws xs:List Int) (k w:Int):Ct:=⟨130,[(.agg [(LI ws),(LI xs),(i6 k),(i6 w)])],false,(i6 (bV ws))⟩
theorem jX (ws xs:List Int) (k w:Int) (hl:ws.length=2) (hf:ws.all ax=true):CC (Kd ws xs k w):=by
 have f0:0<ws.length→1≤ws.getD 0 0∧ws.getD 0 0≤8:=fun h=>aB hf h
 have f1:1<ws.length→1≤ws.getD 1 0∧ws.getD 1 0≤8:=fun h=>aB hf h
 have f2:2<ws.length→1≤ws.getD 2 0∧ws.getD 2 0≤8:=fun h=>aB hf h
 refine ai.vc (V:=TT 4 (IX 0 ws.length∧TT 3 (IX 1 ws.length∧TT 2 (CN ((ws.getD 0 0)=(ws.getD 1 0)) (TT 2 ((0:Int)=(bV ws)∧True)) (TT 2 (IX 0 ws.length∧TT 3 ((ws.getD 0 0)=(bV ws)∧True))))))) (.b 11 (.e) (.e)) Tryz.func130 rfl rfl rfl (by kernel_rfl) ?_
 refine tt ⟨ix,tt ⟨ix,tt (cn (fun hc11=>?_) (fun hc11=>?_))⟩⟩
 · refine tt ⟨?_,oK⟩
   first | exact(if_pos (by simpa using hc11)).symm | exact(if_neg (by simpa using hc11)).symm
 · refine tt ⟨ix,tt ⟨?_,oK⟩⟩
   first | exact(if_pos (by simpa using hc11)).symm | exact(if_neg (by simpa using hc11)).symm
abbrev Ni (ws xs:List Int) (k w:Int):Ct:=⟨136,[(.agg [(LI ws),(LI xs),(i6 k),(i6 w)])],false,(i6 (min (bV ws) 1))⟩
theorem FS (ws xs:List Int) (k w:Int) (hl:ws.length=2) (hf:ws.all ax=true):CC (Ni ws xs k w):=by
 have f0:0<ws.length→1≤ws.getD 0 0∧ws.getD 0 0≤8:=fun h=>aB hf h
 have f1:1<ws.length→1≤ws.getD 1 0∧ws.getD 1 0≤8:=fun h=>aB hf h
 have f2:2<ws.length→1≤ws.getD 2 0∧ws.getD 2 0≤8:=fun h=>aB hf h
 refine ai.vc (V:=TT 3 (CC (Kd ws xs k w)∧(True∧(ta (bV ws) 1)=(min (bV ws) 1))∧TT 2 ((min (bV ws) 1)=(min (bV ws) 1)∧True))) (.w 1 [(1,(Kd ws xs k w).O),(2,.val (i6 (min (bV ws) 1)))]<|.e) Tryz.func136 rfl rfl rfl (by kernel_rfl) ?_
 exact tt ⟨(jX ws xs k w om hf),⟨⟨oK,(by unfold ta;split<;>omega)⟩,tt ⟨rfl,oK⟩⟩⟩
abbrev Nj (ws xs:List Int) (k w:Int):Ct:=⟨140,[(.agg [(LI ws),(LI xs),(i6 k),(i6 w)])],false,(i6 (if ax w=false∨k<0∨ap w<k then 0 else w))⟩
theorem D8 (ws xs:List Int) (k w:Int) (hl:ws.length=0) (hf:ws.all ax=true):CC (Nj ws xs k w):=by
 have f0:0<ws.length→1≤ws.getD 0 0∧ws.getD 0 0≤8:=fun h=>aB hf h
 have f1:1<ws.length→1≤ws.getD 1 0∧ws.getD 1 0≤8:=fun h=>aB hf h
 have f2:2<ws.length→1≤ws.getD 2 0∧ws.getD 2 0≤8:=fun h=>aB hf h
 refine ai.vc (V:=TT 2 (CS ((ax w)=true) (CS (k<0) (TT 2 (CC (gN w)∧TT 1 ((True∧(!(ax w))=false)∧TT 4 ((True∧(decide (k<0))=true)∧TT 3 ((((0:Int)=(if ax w=false∨k<0∨ap w<k then 0 else w)))∧True))))) (TT 2 (CC (gN w)∧TT 1 ((True∧(!(ax w))=false)∧TT 4 ((True∧(decide (k<0))=false)∧TT 4 (CC (xP w)∧TT 2 (CD (k>(ap w)) (TT 2 ((((0:Int)=(if ax w=false∨k<0∨ap w<k then 0 else w)))∧True)) (TT 4 (((w=(if ax w=false∨k<0∨ap w<k then 0 else w)))∧True))))))))) (TT 2 (CC (gN w)∧TT 1 ((True∧(!(ax w))=true)∧TT 5 ((((0:Int)=(if ax w=false∨k<0∨ap w<k then 0 else w)))∧True)))))) (.s 1 ((ax w)=true) (.s 1 (k<0) (.w 1 [(2,(gN w).O),(4,.val (dB false)),(9,.val (dB true))]<|.e) (.w 1 [(2,(gN w).O),(4,.val (dB false)),(9,.val (dB false)),(14,(xP w).O)]<|.b 19 (.e) (.e))) (.w 1 [(2,(gN w).O),(4,.val (dB true))]<|.e)) Tryz.func140 rfl rfl rfl (by kernel_rfl) ?_
 refine tt ⟨fun hs0=>?_,fun hs0=>?_⟩
 · refine⟨fun hs1=>?_,fun hs1=>?_⟩
   · refine tt ⟨(dj w),tt ⟨(mF hs0),tt ⟨(vT hs1),tt ⟨?_,oK⟩⟩⟩⟩
     first | exact(if_pos (by first | assumption | omega)).symm | exact(if_neg (by first | assumption | omega)).symm | (split<;>first | rfl | omega | (simp_all;done) | (simp_all;omega))
   · refine tt ⟨(dj w),tt ⟨(mF hs0),tt ⟨(vF hs1),tt ⟨(tH w),tt (cd (fun hc19=>?_) (fun hc19=>?_))⟩⟩⟩⟩
     · refine tt ⟨?_,oK⟩
       first | exact(if_pos (by first | assumption | omega)).symm | exact(if_neg (by first | assumption | omega)).symm | (split<;>first | rfl | omega | (simp_all;done) | (simp_all;omega))
     · refine tt ⟨?_,oK⟩
       first | exact(if_pos (by first | assumption | omega)).symm | exact(if_neg (by first | assumption | omega)).symm | (split<;>first | rfl | omega | (simp_all;done) | (simp_all;omega))
 · refine tt ⟨(dj w),tt ⟨(mT hs0),tt ⟨?_,oK⟩⟩⟩
   first | exact(if_pos (by first | assumption | omega)).symm | exact(if_neg (by first | assumption | omega)).symm | (split<;>first | rfl | omega | (simp_all;done) | (simp_all;omega))
abbrev Nk (ws xs:List Int) (k w:Int):Ct:=⟨142,[(.agg [(LI ws),(LI xs),(i6 k),(i6 w)])],false,(i6 (if ws.getD 0 0≠1∨ws.getD 1 0≠ws.getD 2 0 then 0 else ws.getD 1 0))⟩
theorem Ih (ws xs:List Int) (k w:Int) (hl:ws.length=3) (hf:ws.all ax=true):CC (Nk ws xs k w):=by
 have f0:0<ws.length→1≤ws.getD 0 0∧ws.getD 0 0≤8:=fun h=>aB hf h
 have f1:1<ws.length→1≤ws.getD 1 0∧ws.getD 1 0≤8:=fun h=>aB hf h
 have f2:2<ws.length→1≤ws.getD 2 0∧ws.getD 2 0≤8:=fun h=>aB hf h
 refine ai.vc (V:=TT 2 (CS ((ws.getD 0 0)=1) (TT 2 (IX 0 ws.length∧TT 2 ((True∧(!decide ((ws.getD 0 0)=1))=false)∧TT 2 (IX 1 ws.length∧TT 3 (IX 2 ws.length∧TT 3 (CN ((ws.getD 1 0)=(ws.getD 2 0)) (TT 2 ((((0:Int)=(if ws.getD 0 0≠1∨ws.getD 1 0≠ws.getD 2 0 then 0 else ws.getD 1 0)))∧True)) (TT 2 (IX 1 ws.length∧TT 3 ((((ws.getD 1 0)=(if ws.getD 0 0≠1∨ws.getD 1 0≠ws.getD 2 0 then 0 else ws.getD 1 0)))∧True))))))))) (TT 2 (IX 0 ws.length∧TT 2 ((True∧(!decide ((ws.getD 0 0)=1))=true)∧TT 3 ((((0:Int)=(if ws.getD 0 0≠1∨ws.getD 1 0≠ws.getD 2 0 then 0 else ws.getD 1 0)))∧True)))))) (.s 1 ((ws.getD 0 0)=1) (.w 1 [(5,.val (dB false))]<|.b 18 (.e) (.e)) (.w 1 [(5,.val (dB true))]<|.e)) Tryz.func142 rfl rfl rfl (by kernel_rfl) ?_
 refine tt ⟨fun hs0=>?_,fun hs0=>?_⟩
 · refine tt ⟨ix,tt ⟨(nF hs0),tt ⟨ix,tt ⟨ix,tt (cn (fun hc18=>?_) (fun hc18=>?_))⟩⟩⟩⟩
   · refine tt ⟨?_,oK⟩
     first | exact(if_pos (by first | assumption | omega)).symm | exact(if_neg (by first | assumption | omega)).symm | (split<;>first | rfl | omega | (simp_all;done) | (simp_all;omega))
   · refine tt ⟨ix,tt ⟨?_,oK⟩⟩
     first | exact(if_pos (by first | assumption | omega)).symm | exact(if_neg (by first | assumption | omega)).symm | (split<;>first | rfl | omega | (simp_all;done) | (simp_all;omega))
 · refine tt ⟨ix,tt ⟨(nT hs0),tt ⟨?_,oK⟩⟩⟩
   first | exact(if_pos (by first | assumption | omega)).symm | exact(if_neg (by first | assumption | omega)).symm | (split<;>first | rfl | omega | (simp_all;done) | (simp_all;omega))
abbrev Nl (ws xs:List Int) (k w:Int):Ct:=⟨144,[(.agg [(LI ws),(LI xs),(i6 k),(i6 w)])],false,(i6 (ws.getD 0 0+ws.getD 1 0))⟩
theorem Ii (ws xs:List Int) (k w:Int) (hl:ws.length=2) (hf:ws.all ax=true):CC (Nl ws xs k w):=by
 have f0:0<ws.length→1≤ws.getD 0 0∧ws.getD 0 0≤8:=fun h=>aB hf h
 have f1:1<ws.length→1≤ws.getD 1 0∧ws.getD 1 0≤8:=fun h=>aB hf h
 have f2:2<ws.length→1≤ws.getD 2 0∧ws.getD 2 0≤8:=fun h=>aB hf h
 refine ai.vc (V:=TT 4 (IX 0 ws.length∧TT 3 (IX 1 ws.length∧TT 1 (W6 ((ws.getD 0 0)+(ws.getD 1 0))∧TT 2 (((ws.getD 0 0)+(ws.getD 1 0))=(ws.getD 0 0+ws.getD 1 0)∧True))))) (.w 1 [(8,.val (i6 ((ws.getD 0 0)+(ws.getD 1 0))))]<|.e) Tryz.func144 rfl rfl rfl (by kernel_rfl) ?_
 refine tt ⟨ix,tt ⟨ix,tt ⟨w6,tt ⟨?_,oK⟩⟩⟩⟩
 first | rfl | omega | (simp;first | done | omega)
abbrev Nn (ws xs:List Int) (k w:Int):Ct:=⟨146,[(.agg [(LI ws),(LI xs),(i6 k),(i6 w)])],false,(i6 (if ax w=false∨k<0∨ws.getD 0 0-w<k then 0 else w))⟩
theorem D9 (ws xs:List Int) (k w:Int) (hl:ws.length=1) (hf:ws.all ax=true):CC (Nn ws xs k w):=by
 have f0:0<ws.length→1≤ws.getD 0 0∧ws.getD 0 0≤8:=fun h=>aB hf h
 have f1:1<ws.length→1≤ws.getD 1 0∧ws.getD 1 0≤8:=fun h=>aB hf h
 have f2:2<ws.length→1≤ws.getD 2 0∧ws.getD 2 0≤8:=fun h=>aB hf h
 refine ai.vc (V:=TT 2 (CS ((ax w)=true) (CS (k<0) (TT 2 (CC (gN w)∧TT 1 ((True∧(!(ax w))=false)∧TT 4 ((True∧(decide (k<0))=true)∧TT 3 ((((0:Int)=(if ax w=false∨k<0∨ws.getD 0 0-w<k then 0 else w)))∧True))))) (TT 2 (CC (gN w)∧TT 1 ((True∧(!(ax w))=false)∧TT 4 ((True∧(decide (k<0))=false)∧TT 4 (IX 0 ws.length∧TT 3 (W6 ((ws.getD 0 0)-w)∧TT 2 (CD (k>((ws.getD 0 0)-w)) (TT 2 ((((0:Int)=(if ax w=false∨k<0∨ws.getD 0 0-w<k then 0 else w)))∧True)) (TT 4 (((w=(if ax w=false∨k<0∨ws.getD 0 0-w<k then 0 else w)))∧True)))))))))) (TT 2 (CC (gN w)∧TT 1 ((True∧(!(ax w))=true)∧TT 5 ((((0:Int)=(if ax w=false∨k<0∨ws.getD 0 0-w<k then 0 else w)))∧True)))))) (.s 1 ((ax w)=true) (.s 1 (k<0) (.w 1 [(2,(gN w).O),(4,.val (dB false)),(9,.val (dB true))]<|.e) (.w 1 [(2,(gN w).O),(4,.val (dB false)),(9,.val (dB false)),(18,.val (i6 ((ws.getD 0 0)-w)))]<|.b 23 (.e) (.e))) (.w 1 [(2,(gN w).O),(4,.val (dB true))]<|.e)) Tryz.func146 rfl rfl rfl (by kernel_rfl) ?_
 refine tt ⟨fun hs0=>?_,fun hs0=>?_⟩
 · refine⟨fun hs1=>?_,fun hs1=>?_⟩
   · refine tt ⟨(dj w),tt ⟨(mF hs0),tt ⟨(vT hs1),tt ⟨?_,oK⟩⟩⟩⟩
     first | exact(if_pos (by first | assumption | omega)).symm | exact(if_neg (by first | assumption | omega)).symm | (split<;>first | rfl | omega | (simp_all;done) | (simp_all;omega))
   · refine tt ⟨(dj w),tt ⟨(mF hs0),tt ⟨(vF hs1),tt ⟨ix,tt ⟨(w6 (by have:=bf.1 (show ax w=true by simp_all);omega) (by have:=bf.1 (show ax w=true by simp_all);omega)),tt (cd (fun hc23=>?_) (fun hc23=>?_))⟩⟩⟩⟩⟩
     · refine tt ⟨?_,oK⟩
       first | exact(if_pos (by first | assumption | omega)).symm | exact(if_neg (by first | assumption | omega)).symm | (split<;>first | rfl | omega | (simp_all;done) | (simp_all;omega))
     · refine tt ⟨?_,oK⟩
       first | exact(if_pos (by first | assumption | omega)).symm | exact(if_neg (by first | assumption | omega)).symm | (split<;>first | rfl | omega | (simp_all;done) | (simp_all;omega))
 · refine tt ⟨(dj w),tt ⟨(mT hs0),tt ⟨?_,oK⟩⟩⟩
   first | exact(if_pos (by first | assumption | omega)).symm | exact(if_neg (by first | assumption | omega)).symm | (split<;>first | rfl | omega | (simp_all;done) | (simp_all;omega))
abbrev No (ws xs:List Int) (k w:Int):Ct:=⟨148,[(.agg [(LI ws),(LI xs),(i6 k),(i6 w)])],false,(i6 (if w<ws.getD 0 0 then 0 else w))⟩
theorem Ij (ws xs:List Int) (k w:Int) (hl:ws.length=1) (hf:ws.all ax=true):CC (No ws xs k w):=by
 have f0:0<ws.length→1≤ws.getD 0 0∧ws.getD 0 0≤8:=fun h=>aB hf h
 have f1:1<ws.length→1≤ws.getD 1 0∧ws.getD 1 0≤8:=fun h=>aB hf h
 have f2:2<ws.length→1≤ws.getD 2 0∧ws.getD 2 0≤8:=fun h=>aB hf h
 refine ai.vc (V:=TT 6 (IX 0 ws.length∧TT 2 (CD (w<(ws.getD 0 0)) (TT 2 ((0:Int)=(if w<ws.getD 0 0 then 0 else w)∧True)) (TT 4 (w=(if w<ws.getD 0 0 then 0 else w)∧True))))) (.b 9 (.e) (.e)) Tryz.func148 rfl rfl rfl (by kernel_rfl) ?_
 refine tt ⟨ix,tt (cd (fun hc9=>?_) (fun hc9=>?_))⟩
 · refine tt ⟨?_,oK⟩
   first | exact(if_pos (by first | assumption | omega)).symm | exact(if_neg (by first | assumption | omega)).symm | (split<;>first | rfl | omega | (simp_all;done) | (simp_all;omega))
 · refine tt ⟨?_,oK⟩
   first | exact(if_pos (by first | assumption | omega)).symm | exact(if_neg (by first | assumption | omega)).symm | (split<;>first | rfl | omega | (simp_all;done) | (simp_all;omega))
end Go.Proofs.YtckgpflobhpnpaaGreat
