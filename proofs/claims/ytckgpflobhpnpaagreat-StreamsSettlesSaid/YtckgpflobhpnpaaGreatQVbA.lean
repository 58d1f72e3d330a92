/-
  Package bits: widths and values of operations.
-/
import Derived.Test.YtckgpflobhpnpaaGreatQBitP
namespace Go.Proofs.YtckgpflobhpnpaaGreat
open Go.RowKit
set_option linter.unusedVariables false
set_option linter.unusedSimpArgs false
set_option maxRecDepth 100000
abbrev ic (n:Int):Ct:=⟨126,[(i6 n)],false,(dB (ay n))⟩
theorem dM (n:Int):CC (ic n):=by
 refine ah.vc (V:=TT 1 (CS (n≥1) (TT 2 ((True∧(decide (n≥1))=true)∧TT 5 ((decide (n≤8))=(ay n)∧True))) (TT 2 ((True∧(decide (n≥1))=false)∧TT 5 (false=(ay n)∧True))))) (.s 1 (n≥1) (.w 1 [(2,.val (dB true))]<|.e) (.w 1 [(2,.val (dB false))]<|.e)) Tryz.func126 rfl rfl rfl (by kernel_rfl) ?_
 refine tt ⟨fun hs0=>?_,fun hs0=>?_⟩
 · refine tt ⟨(vT hs0),tt ⟨?_,oK⟩⟩
   unfold ay;simp;omega
 · refine tt ⟨(vF hs0),tt ⟨?_,oK⟩⟩
   unfold ay;simp;omega
abbrev zp (w:Int):Ct:=⟨118,[(i6 w)],false,(i6 (an w))⟩
theorem u5 (w:Int):CC (zp w):=by
 refine ah.vc (V:=TT 1 (CS (w<0) (TT 2 ((True∧(decide (w<0))=true)∧TT 5 ((0:Int)=(an w)∧True))) (TT 2 ((True∧(decide (w<0))=false)∧TT 3 (CD (w>62) (TT 2 ((0:Int)=(an w)∧True)) (TT 1 (SH w∧W6 ((2^w.toNat)-1)∧TT 2 (((2^w.toNat)-1)=(an w)∧True)))))))) (.s 1 (w<0) (.w 1 [(2,.val (dB true))]<|.e) (.w 1 [(2,.val (dB false))]<|.b 8 (.e) (.w 3 [(1,.val (i6 (2^w.toNat))),(2,.val (i6 ((2^w.toNat)-1)))]<|.e))) Tryz.func118 rfl rfl rfl (by kernel_rfl) ?_
 refine tt ⟨fun hs0=>?_,fun hs0=>?_⟩
 · refine tt ⟨(vT hs0),tt ⟨?_,oK⟩⟩
   unfold an;first | exact(if_pos (by omega)).symm | exact(if_neg (by omega)).symm
 · refine tt ⟨(vF hs0),tt (cd (fun hc8=>?_) (fun hc8=>?_))⟩
   · refine tt ⟨?_,oK⟩
     unfold an;first | exact(if_pos (by omega)).symm | exact(if_neg (by omega)).symm
   · refine tt ⟨sh,⟨(w6 (by have:=kG (n:=w.toNat) (by omega);omega) (by have:=kG (n:=w.toNat) (by omega);omega)),tt ⟨?_,oK⟩⟩⟩
     unfold an;first | exact(if_pos (by omega)).symm | exact(if_neg (by omega)).symm
abbrev HM (b:Bool):Ct:=⟨138,[(dB b)],false,(i6 (if b=true then 1 else 0))⟩
theorem HN (b:Bool):CC (HM b):=by
 refine ah.vc (V:=TT 2 (CB (b) (TT 2 ((1:Int)=(if b=true then 1 else 0)∧True)) (TT 2 ((0:Int)=(if b=true then 1 else 0)∧True)))) (.b 3 (.e) (.e)) Tryz.func138 rfl rfl rfl (by kernel_rfl) ?_
 refine tt ⟨fun hc3=>?_,fun hc3=>?_⟩
 · refine tt ⟨?_,oK⟩
   first | exact(if_pos hc3).symm | exact(if_neg (by rw[hc3];simp)).symm
 · refine tt ⟨?_,oK⟩
   first | exact(if_pos hc3).symm | exact(if_neg (by rw[hc3];simp)).symm
abbrev MF (n:Int):Ct:=⟨125,[(i6 n)],false,(dB (!(ay n)))⟩
theorem HO (n:Int):CC (MF n):=by
 refine ah.vc (V:=TT 2 (CC (ic n)∧TT 3 ((!(ay n))=(!(ay n))∧True))) (.w 1 [(1,(ic n).O)]<|.e) Tryz.func125 rfl rfl rfl (by kernel_rfl) ?_
 exact tt ⟨(dM n),tt ⟨rfl,oK⟩⟩
abbrev MG (ws:List Int):Ct:=⟨106,[(LI ws),(.fn (.func 125) [] [])],false,(i6 (tg 0 ws))⟩
abbrev rI (ws:List Int):Lp (Nat):=li [0,1,7,8] 0 (fun (k:Nat)=>⟨[(0,(LI ws)),(1,(.fn (.func 125) [] [])),(7,(i6 (ws.length:Int))),(8,(i6 (k:Int)))],[]⟩) (fun (k:Nat)=>k≤ws.length∧tg k (ws.drop k)=tg 0 ws) (fun (k:Nat)=>ws.length-k)
theorem HP (ws:List Int) (hl:ws.length≤9223372036854775807):CC (MG ws):=by
 refine ah.vc (V:=TT 4 (GO (rI ws) 0 (∀k,(rI ws).inv k→TT 1 (CD ((k:Int)<(ws.length:Int)) (TT 5 (IX (k:Int) ws.length∧TT 1 (CC (MF (ws.getD k 0))∧CB (!(ay (ws.getD k 0))) (TT 3 ((k:Int)=(tg 0 ws)∧True)) (W6 ((k+1:Nat):Int)∧TT 1 (AG (rI ws) k (k+1)))))) (TT 2 ((-1)=(tg 0 ws)∧True)))))) (.l (rI ws) 0 (fun k=>.b 9 (.w 4 [(5,(MF (ws.getD k 0)).O)]<|.b 16 (.e) (.w 6 [(0,.val (i6 ((k+1:Nat):Int)))]<|.e)) (.e))) Tryz.func106 rfl rfl rfl (by kernel_rfl) ?_
 refine tt ⟨rfl,⟨by omega,by rw[List.drop_zero]⟩,?_⟩
 intro k hinv
 obtain⟨hk,hx⟩:=hinv
 refine tt (cd (fun hc9=>?_) (fun hc9=>?_))
 · refine tt ⟨ix,tt ⟨(HO (ws.getD k 0)),⟨fun hc16=>?_,fun hc16=>?_⟩⟩⟩
   · refine tt ⟨?_,oK⟩
     rw[← hx,x9 (show k<ws.length by omega),if_neg (by simpa using hc16)]
   · refine⟨w6,tt ⟨(k+1),rfl,?_,(?_:ws.length-(k+1)<ws.length-k)⟩⟩
     · refine⟨by omega,?_⟩
       rw[← hx,x9 (show k<ws.length by omega),if_pos (by simpa using hc16)]
     · omega
 · refine tt ⟨?_,oK⟩
   rw[← hx,List.drop_of_length_le (by omega)];rfl
abbrev KC (ws:List Int):Ct:=⟨82,[(LI ws),(.fn (.func 125) [] [])],false,(dB (!(ws.all ay)))⟩
theorem jP (ws:List Int) (hl:ws.length≤9223372036854775807):CC (KC ws):=by
 refine ah.vc (V:=TT 3 (CC (MG ws)∧TT 3 ((decide ((tg 0 ws)≥0))=(!(ws.all ay))∧True))) (.w 1 [(2,(MG ws).O)]<|.e) Tryz.func82 rfl rfl rfl (by kernel_rfl) ?_
 refine tt ⟨(HP ws om),tt ⟨?_,oK⟩⟩
 rw[← x8 ws 0]
abbrev PO (ws xs:List Int) (k w:Int):Ct:=⟨127,[(.agg [(LI ws),(LI xs),(i6 k),(i6 w)])],false,(i6 (ws.getD 0 0))⟩
theorem HQ (ws xs:List Int) (k w:Int) (hl:ws.length=1) (hf:ws.all ay=true):CC (PO ws xs k w):=by
 have f0:0<ws.length→1≤ws.getD 0 0∧ws.getD 0 0≤8:=fun h=>aB hf h
 have f1:1<ws.length→1≤ws.getD 1 0∧ws.getD 1 0≤8:=fun h=>aB hf h
 have f2:2<ws.length→1≤ws.getD 2 0∧ws.getD 2 0≤8:=fun h=>aB hf h
 refine ah.vc (V:=TT 4 (IX 0 ws.length∧TT 3 ((ws.getD 0 0)=(ws.getD 0 0)∧True))) (.e) Tryz.func127 rfl rfl rfl (by kernel_rfl) ?_
 exact tt ⟨ix,tt ⟨rfl,oK⟩⟩
abbrev MH (ws xs:List Int) (k w:Int):Ct:=⟨130,[(.agg [(LI ws),(LI xs),(i6 k),(i6 w)])],false,(i6 (cg ws))⟩
theorem kH (ws xs:List Int) (k w:Int) (hl:ws.length=2) (hf:ws.all ay=true):CC (MH ws xs k w):=by
 have f0:0<ws.length→1≤ws.getD 0 0∧ws.getD 0 0≤8:=fun h=>aB hf h
 have f1:1<ws.length→1≤ws.getD 1 0∧ws.getD 1 0≤8:=fun h=>aB hf h
 have f2:2<ws.length→1≤ws.getD 2 0∧ws.getD 2 0≤8:=fun h=>aB hf h
 refine ah.vc (V:=TT 4 (IX 0 ws.length∧TT 3 (IX 1 ws.length∧TT 2 (CN ((ws.getD 0 0)=(ws.getD 1 0)) (TT 2 ((0:Int)=(cg ws)∧True)) (TT 2 (IX 0 ws.length∧TT 3 ((ws.getD 0 0)=(cg ws)∧True))))))) (.b 11 (.e) (.e)) Tryz.func130 rfl rfl rfl (by kernel_rfl) ?_
 refine tt ⟨ix,tt ⟨ix,tt (cn (fun hc11=>?_) (fun hc11=>?_))⟩⟩
 · refine tt ⟨?_,oK⟩
   first | exact(if_pos (by simpa using hc11)).symm | exact(if_neg (by simpa using hc11)).symm
 · refine tt ⟨ix,tt ⟨?_,oK⟩⟩
   first | exact(if_pos (by simpa using hc11)).symm | exact(if_neg (by simpa using hc11)).symm
abbrev PP (ws xs:List Int) (k w:Int):Ct:=⟨136,[(.agg [(LI ws),(LI xs),(i6 k),(i6 w)])],false,(i6 (min (cg ws) 1))⟩
theorem HR (ws xs:List Int) (k w:Int) (hl:ws.length=2) (hf:ws.all ay=true):CC (PP ws xs k w):=by
 have f0:0<ws.length→1≤ws.getD 0 0∧ws.getD 0 0≤8:=fun h=>aB hf h
 have f1:1<ws.length→1≤ws.getD 1 0∧ws.getD 1 0≤8:=fun h=>aB hf h
 have f2:2<ws.length→1≤ws.getD 2 0∧ws.getD 2 0≤8:=fun h=>aB hf h
 refine ah.vc (V:=TT 3 (CC (MH ws xs k w)∧(True∧(uC (cg ws) 1)=(min (cg ws) 1))∧TT 2 ((min (cg ws) 1)=(min (cg ws) 1)∧True))) (.w 1 [(1,(MH ws xs k w).O),(2,.val (i6 (min (cg ws) 1)))]<|.e) Tryz.func136 rfl rfl rfl (by kernel_rfl) ?_
 exact tt ⟨(kH ws xs k w om hf),⟨⟨oK,(by unfold uC;split<;>omega)⟩,tt ⟨rfl,oK⟩⟩⟩
abbrev PQ (ws xs:List Int) (k w:Int):Ct:=⟨140,[(.agg [(LI ws),(LI xs),(i6 k),(i6 w)])],false,(i6 (if ay w=false∨k<0∨an w<k then 0 else w))⟩
theorem F8 (ws xs:List Int) (k w:Int) (hl:ws.length=0) (hf:ws.all ay=true):CC (PQ ws xs k w):=by
 have f0:0<ws.length→1≤ws.getD 0 0∧ws.getD 0 0≤8:=fun h=>aB hf h
 have f1:1<ws.length→1≤ws.getD 1 0∧ws.getD 1 0≤8:=fun h=>aB hf h
 have f2:2<ws.length→1≤ws.getD 2 0∧ws.getD 2 0≤8:=fun h=>aB hf h
 refine ah.vc (V:=TT 2 (CS ((ay w)=true) (CS (k<0) (TT 2 (CC (ic w)∧TT 1 ((True∧(!(ay w))=false)∧TT 4 ((True∧(decide (k<0))=true)∧TT 3 ((((0:Int)=(if ay w=false∨k<0∨an w<k then 0 else w)))∧True))))) (TT 2 (CC (ic w)∧TT 1 ((True∧(!(ay w))=false)∧TT 4 ((True∧(decide (k<0))=false)∧TT 4 (CC (zp w)∧TT 2 (CD (k>(an w)) (TT 2 ((((0:Int)=(if ay w=false∨k<0∨an w<k then 0 else w)))∧True)) (TT 4 (((w=(if ay w=false∨k<0∨an w<k then 0 else w)))∧True))))))))) (TT 2 (CC (ic w)∧TT 1 ((True∧(!(ay w))=true)∧TT 5 ((((0:Int)=(if ay w=false∨k<0∨an w<k then 0 else w)))∧True)))))) (.s 1 ((ay w)=true) (.s 1 (k<0) (.w 1 [(2,(ic w).O),(4,.val (dB false)),(9,.val (dB true))]<|.e) (.w 1 [(2,(ic w).O),(4,.val (dB false)),(9,.val (dB false)),(14,(zp w).O)]<|.b 19 (.e) (.e))) (.w 1 [(2,(ic w).O),(4,.val (dB true))]<|.e)) Tryz.func140 rfl rfl rfl (by kernel_rfl) ?_
 refine tt ⟨fun hs0=>?_,fun hs0=>?_⟩
 · refine⟨fun hs1=>?_,fun hs1=>?_⟩
   · refine tt ⟨(dM w),tt ⟨(mF hs0),tt ⟨(vT hs1),tt ⟨?_,oK⟩⟩⟩⟩
     first | exact(if_pos (by first | assumption | omega)).symm | exact(if_neg (by first | assumption | omega)).symm | (split<;>first | rfl | omega | (simp_all;done) | (simp_all;omega))
   · refine tt ⟨(dM w),tt ⟨(mF hs0),tt ⟨(vF hs1),tt ⟨(u5 w),tt (cd (fun hc19=>?_) (fun hc19=>?_))⟩⟩⟩⟩
     · refine tt ⟨?_,oK⟩
       first | exact(if_pos (by first | assumption | omega)).symm | exact(if_neg (by first | assumption | omega)).symm | (split<;>first | rfl | omega | (simp_all;done) | (simp_all;omega))
     · refine tt ⟨?_,oK⟩
       first | exact(if_pos (by first | assumption | omega)).symm | exact(if_neg (by first | assumption | omega)).symm | (split<;>first | rfl | omega | (simp_all;done) | (simp_all;omega))
 · refine tt ⟨(dM w),tt ⟨(mT hs0),tt ⟨?_,oK⟩⟩⟩
   first | exact(if_pos (by first | assumption | omega)).symm | exact(if_neg (by first | assumption | omega)).symm | (split<;>first | rfl | omega | (simp_all;done) | (simp_all;omega))
abbrev PR (ws xs:List Int) (k w:Int):Ct:=⟨142,[(.agg [(LI ws),(LI xs),(i6 k),(i6 w)])],false,(i6 (if ws.getD 0 0≠1∨ws.getD 1 0≠ws.getD 2 0 then 0 else ws.getD 1 0))⟩
theorem KD (ws xs:List Int) (k w:Int) (hl:ws.length=3) (hf:ws.all ay=true):CC (PR ws xs k w):=by
 have f0:0<ws.length→1≤ws.getD 0 0∧ws.getD 0 0≤8:=fun h=>aB hf h
 have f1:1<ws.length→1≤ws.getD 1 0∧ws.getD 1 0≤8:=fun h=>aB hf h
 have f2:2<ws.length→1≤ws.getD 2 0∧ws.getD 2 0≤8:=fun h=>aB hf h
 refine ah.vc (V:=TT 2 (CS ((ws.getD 0 0)=1) (TT 2 (IX 0 ws.length∧TT 2 ((True∧(!decide ((ws.getD 0 0)=1))=false)∧TT 2 (IX 1 ws.length∧TT 3 (IX 2 ws.length∧TT 3 (CN ((ws.getD 1 0)=(ws.getD 2 0)) (TT 2 ((((0:Int)=(if ws.getD 0 0≠1∨ws.getD 1 0≠ws.getD 2 0 then 0 else ws.getD 1 0)))∧True)) (TT 2 (IX 1 ws.length∧TT 3 ((((ws.getD 1 0)=(if ws.getD 0 0≠1∨ws.getD 1 0≠ws.getD 2 0 then 0 else ws.getD 1 0)))∧True))))))))) (TT 2 (IX 0 ws.length∧TT 2 ((True∧(!decide ((ws.getD 0 0)=1))=true)∧TT 3 ((((0:Int)=(if ws.getD 0 0≠1∨ws.getD 1 0≠ws.getD 2 0 then 0 else ws.getD 1 0)))∧True)))))) (.s 1 ((ws.getD 0 0)=1) (.w 1 [(5,.val (dB false))]<|.b 18 (.e) (.e)) (.w 1 [(5,.val (dB true))]<|.e)) Tryz.func142 rfl rfl rfl (by kernel_rfl) ?_
 refine tt ⟨fun hs0=>?_,fun hs0=>?_⟩
 · refine tt ⟨ix,tt ⟨(nF hs0),tt ⟨ix,tt ⟨ix,tt (cn (fun hc18=>?_) (fun hc18=>?_))⟩⟩⟩⟩
   · refine tt ⟨?_,oK⟩
     first | exact(if_pos (by first | assumption | omega)).symm | exact(if_neg (by first | assumption | omega)).symm | (split<;>first | rfl | omega | (simp_all;done) | (simp_all;omega))
   · refine tt ⟨ix,tt ⟨?_,oK⟩⟩
     first | exact(if_pos (by first | assumption | omega)).symm | exact(if_neg (by first | assumption | omega)).symm | (split<;>first | rfl | omega | (simp_all;done) | (simp_all;omega))
 · refine tt ⟨ix,tt ⟨(nT hs0),tt ⟨?_,oK⟩⟩⟩
   first | exact(if_pos (by first | assumption | omega)).symm | exact(if_neg (by first | assumption | omega)).symm | (split<;>first | rfl | omega | (simp_all;done) | (simp_all;omega))
abbrev PS (ws xs:List Int) (k w:Int):Ct:=⟨144,[(.agg [(LI ws),(LI xs),(i6 k),(i6 w)])],false,(i6 (ws.getD 0 0+ws.getD 1 0))⟩
theorem KE (ws xs:List Int) (k w:Int) (hl:ws.length=2) (hf:ws.all ay=true):CC (PS ws xs k w):=by
 have f0:0<ws.length→1≤ws.getD 0 0∧ws.getD 0 0≤8:=fun h=>aB hf h
 have f1:1<ws.length→1≤ws.getD 1 0∧ws.getD 1 0≤8:=fun h=>aB hf h
 have f2:2<ws.length→1≤ws.getD 2 0∧ws.getD 2 0≤8:=fun h=>aB hf h
 refine ah.vc (V:=TT 4 (IX 0 ws.length∧TT 3 (IX 1 ws.length∧TT 1 (W6 ((ws.getD 0 0)+(ws.getD 1 0))∧TT 2 (((ws.getD 0 0)+(ws.getD 1 0))=(ws.getD 0 0+ws.getD 1 0)∧True))))) (.w 1 [(8,.val (i6 ((ws.getD 0 0)+(ws.getD 1 0))))]<|.e) Tryz.func144 rfl rfl rfl (by kernel_rfl) ?_
 refine tt ⟨ix,tt ⟨ix,tt ⟨w6,tt ⟨?_,oK⟩⟩⟩⟩
 first | rfl | omega | (simp;first | done | omega)
abbrev PT (ws xs:List Int) (k w:Int):Ct:=⟨146,[(.agg [(LI ws),(LI xs),(i6 k),(i6 w)])],false,(i6 (if ay w=false∨k<0∨ws.getD 0 0-w<k then 0 else w))⟩
theorem F9 (ws xs:List Int) (k w:Int) (hl:ws.length=1) (hf:ws.all ay=true):CC (PT ws xs k w):=by
 have f0:0<ws.length→1≤ws.getD 0 0∧ws.getD 0 0≤8:=fun h=>aB hf h
 have f1:1<ws.length→1≤ws.getD 1 0∧ws.getD 1 0≤8:=fun h=>aB hf h
 have f2:2<ws.length→1≤ws.getD 2 0∧ws.getD 2 0≤8:=fun h=>aB hf h
 refine ah.vc (V:=TT 2 (CS ((ay w)=true) (CS (k<0) (TT 2 (CC (ic w)∧TT 1 ((True∧(!(ay w))=false)∧TT 4 ((True∧(decide (k<0))=true)∧TT 3 ((((0:Int)=(if ay w=false∨k<0∨ws.getD 0 0-w<k then 0 else w)))∧True))))) (TT 2 (CC (ic w)∧TT 1 ((True∧(!(ay w))=false)∧TT 4 ((True∧(decide (k<0))=false)∧TT 4 (IX 0 ws.length∧TT 3 (W6 ((ws.getD 0 0)-w)∧TT 2 (CD (k>((ws.getD 0 0)-w)) (TT 2 ((((0:Int)=(if ay w=false∨k<0∨ws.getD 0 0-w<k then 0 else w)))∧True)) (TT 4 (((w=(if ay w=false∨k<0∨ws.getD 0 0-w<k then 0 else w)))∧True)))))))))) (TT 2 (CC (ic w)∧TT 1 ((True∧(!(ay w))=true)∧TT 5 ((((0:Int)=(if ay w=false∨k<0∨ws.getD 0 0-w<k then 0 else w)))∧True)))))) (.s 1 ((ay w)=true) (.s 1 (k<0) (.w 1 [(2,(ic w).O),(4,.val (dB false)),(9,.val (dB true))]<|.e) (.w 1 [(2,(ic w).O),(4,.val (dB false)),(9,.val (dB false)),(18,.val (i6 ((ws.getD 0 0)-w)))]<|.b 23 (.e) (.e))) (.w 1 [(2,(ic w).O),(4,.val (dB true))]<|.e)) Tryz.func146 rfl rfl rfl (by kernel_rfl) ?_
 refine tt ⟨fun hs0=>?_,fun hs0=>?_⟩
 · refine⟨fun hs1=>?_,fun hs1=>?_⟩
   · refine tt ⟨(dM w),tt ⟨(mF hs0),tt ⟨(vT hs1),tt ⟨?_,oK⟩⟩⟩⟩
     first | exact(if_pos (by first | assumption | omega)).symm | exact(if_neg (by first | assumption | omega)).symm | (split<;>first | rfl | omega | (simp_all;done) | (simp_all;omega))
   · refine tt ⟨(dM w),tt ⟨(mF hs0),tt ⟨(vF hs1),tt ⟨ix,tt ⟨(w6 (by have:=bn.1 (show ay w=true by simp_all);omega) (by have:=bn.1 (show ay w=true by simp_all);omega)),tt (cd (fun hc23=>?_) (fun hc23=>?_))⟩⟩⟩⟩⟩
     · refine tt ⟨?_,oK⟩
       first | exact(if_pos (by first | assumption | omega)).symm | exact(if_neg (by first | assumption | omega)).symm | (split<;>first | rfl | omega | (simp_all;done) | (simp_all;omega))
     · refine tt ⟨?_,oK⟩
       first | exact(if_pos (by first | assumption | omega)).symm | exact(if_neg (by first | assumption | omega)).symm | (split<;>first | rfl | omega | (simp_all;done) | (simp_all;omega))
 · refine tt ⟨(dM w),tt ⟨(mT hs0),tt ⟨?_,oK⟩⟩⟩
   first | exact(if_pos (by first | assumption | omega)).symm | exact(if_neg (by first | assumption | omega)).symm | (split<;>first | rfl | omega | (simp_all;done) | (simp_all;omega))
abbrev PU (ws xs:List Int) (k w:Int):Ct:=⟨148,[(.agg [(LI ws),(LI xs),(i6 k),(i6 w)])],false,(i6 (if w<ws.getD 0 0 then 0 else w))⟩
theorem KF (ws xs:List Int) (k w:Int) (hl:ws.length=1) (hf:ws.all ay=true):CC (PU ws xs k w):=by
 have f0:0<ws.length→1≤ws.getD 0 0∧ws.getD 0 0≤8:=fun h=>aB hf h
 have f1:1<ws.length→1≤ws.getD 1 0∧ws.getD 1 0≤8:=fun h=>aB hf h
 have f2:2<ws.length→1≤ws.getD 2 0∧ws.getD 2 0≤8:=fun h=>aB hf h
 refine ah.vc (V:=TT 6 (IX 0 ws.length∧TT 2 (CD (w<(ws.getD 0 0)) (TT 2 ((0:Int)=(if w<ws.getD 0 0 then 0 else w)∧True)) (TT 4 (w=(if w<ws.getD 0 0 then 0 else w)∧True))))) (.b 9 (.e) (.e)) Tryz.func148 rfl rfl rfl (by kernel_rfl) ?_
 refine tt ⟨ix,tt (cd (fun hc9=>?_) (fun hc9=>?_))⟩
 · refine tt ⟨?_,oK⟩
   first | exact(if_pos (by first | assumption | omega)).symm | exact(if_neg (by first | assumption | omega)).symm | (split<;>first | rfl | omega | (simp_all;done) | (simp_all;omega))
 · refine tt ⟨?_,oK⟩
   first | exact(if_pos (by first | assumption | omega)).symm | exact(if_neg (by first | assumption | omega)).symm | (split<;>first | rfl | omega | (simp_all;done) | (simp_all;omega))
end Go.Proofs.YtckgpflobhpnpaaGreat
